/-
  A part of the proof of this claim (Ae7): what functions of the program compute, and plain facts of that. No conditions.
-/
import Derived.Test.YtophfihhdelbiaaAe6
set_option linter.all false
namespace Go.Proofs.Ytophfihhdelbiaa
open Go Go.Am
noncomputable section

theorem ts8 : ∀ a b : Fin 8, (truthStates 8 (a.val : Int) (b.val : Int) == combinedStates 8 (a.val : Int) (b.val : Int)) = true := by decide +kernel
theorem ts9 : ∀ a b : Fin 8, (truthStates 9 (a.val : Int) (b.val : Int) == combinedStates 9 (a.val : Int) (b.val : Int)) = true := by decide +kernel
theorem an_all : ∀ a : Fin 8, ((bits .andNot .i64 (a.val : Int) 4 != 0) == (bits .and .i64 (a.val : Int) 3 != 0)) = true := by decide +kernel
theorem an_eq {a : Int} (h : 0 ≤ a ∧ a ≤ 7) : (bits .andNot .i64 a 4 != 0) = (bits .and .i64 a 3 != 0) := by
 obtain ⟨n, rfl⟩ := Int.eq_ofNat_of_zero_le h.1
 exact beq_iff_eq.1 (an_all ⟨n, by omega⟩)

def outcomes_r : Nat → Xpr → (List Int) → Int
 | 0, e, st => 0
 | fuel + 1, e, st => (bif ((Xpr.Kind e) == 1) then (List.getD st (Int.toNat (Xpr.Col e)) 0) else (bif ((Xpr.Kind e) == 2) then (stateOf (Xpr.V e)) else (bif ((Xpr.Kind e) == 10) then (bits .or .i64 (bits .or .i64 (bits .and .i64 ((outcomes_r fuel) (List.getD (Xpr.Kids e) 0 Xpr.zero) st) 4) ((bits .and .i64 ((outcomes_r fuel) (List.getD (Xpr.Kids e) 0 Xpr.zero) st) 1) * 2 ^ 1)) ((bits .and .i64 ((outcomes_r fuel) (List.getD (Xpr.Kids e) 0 Xpr.zero) st) 2) / 2 ^ 1)) else (bif ((Xpr.Kind e) == 11) then (bif ((bits .and .i64 ((outcomes_r fuel) (List.getD (Xpr.Kids e) 0 Xpr.zero) st) 4) != 0) then (bif ((bits .and .i64 ((outcomes_r fuel) (List.getD (Xpr.Kids e) 0 Xpr.zero) st) 3) != 0) then (bits .or .i64 2 1) else 2) else (bif ((bits .and .i64 ((outcomes_r fuel) (List.getD (Xpr.Kids e) 0 Xpr.zero) st) 3) != 0) then (bits .or .i64 0 1) else 0)) else (bif (bif ((Xpr.Kind e) == 8) then true else ((Xpr.Kind e) == 9)) then (truthStates (Xpr.Kind e) ((outcomes_r fuel) (List.getD (Xpr.Kids e) 0 Xpr.zero) st) ((outcomes_r fuel) (List.getD (Xpr.Kids e) 1 Xpr.zero) st)) else (bif ((bits .and .i64 (bits .or .i64 ((outcomes_r fuel) (List.getD (Xpr.Kids e) 0 Xpr.zero) st) ((outcomes_r fuel) (List.getD (Xpr.Kids e) 1 Xpr.zero) st)) 4) != 0) then (bif (bif ((bits .and .i64 ((outcomes_r fuel) (List.getD (Xpr.Kids e) 0 Xpr.zero) st) 3) != 0) then ((bits .and .i64 ((outcomes_r fuel) (List.getD (Xpr.Kids e) 1 Xpr.zero) st) 3) != 0) else false) then (bif (decide ((Xpr.Kind e) < 6)) then (bits .or .i64 (bits .or .i64 4 3) 4) else (bits .or .i64 4 3)) else 4) else (bif (bif ((bits .and .i64 ((outcomes_r fuel) (List.getD (Xpr.Kids e) 0 Xpr.zero) st) 3) != 0) then ((bits .and .i64 ((outcomes_r fuel) (List.getD (Xpr.Kids e) 1 Xpr.zero) st) 3) != 0) else false) then (bif (decide ((Xpr.Kind e) < 6)) then (bits .or .i64 (bits .or .i64 0 3) 4) else (bits .or .i64 0 3)) else 0)))))))

def outcomes (e : Xpr) (st : List Int) : Int := outcomes_r (SizeOf.sizeOf e + 1) e st

def outcomes_spn (fuel : Nat) : FnSpec := mkSpec [.val (.named 1), .val (.slice (.int .i64))] [.val (.int .i64)] (fun (e : Xpr) (st : List Int) => (VX st e) ∧ SizeOf.sizeOf e < fuel) (fun (e : Xpr) (st : List Int) => [⟨(.int .i64), (outcomes_r fuel e st)⟩])

def outcomes_sp : FnSpec := mkSpec [.val (.named 1), .val (.slice (.int .i64))] [.val (.int .i64)] (fun (e : Xpr) (st : List Int) => VX st e) (fun (e : Xpr) (st : List Int) => [⟨(.int .i64), (outcomes e st)⟩])

theorem outcomes_eq : ∀ (f : Nat) (e : Xpr) (st : List Int), VX st e → outcomes_r f e st = ioutcomes_r f e st := by
 intro f
 induction f with
 | zero => intro e st h; rfl
 | succ f ih =>
  intro e st h
  have hn := h.node
  have hnk := hn.kids
  have hkc := kids_cases (Xpr.Kind e)
  unfold ioutcomes_r outcomes_r
  by_cases h1 : e.Kind = 1
  ·
   rw [show (e.Kind == 1) = true by simp [h1], cond_true, cond_true]
  ·
   rw [show (e.Kind == 1) = false by simp [h1], cond_false, cond_false]
   by_cases h2 : e.Kind = 2
   ·
    rw [show (e.Kind == 2) = true by simp [h2], cond_true, cond_true, stateOf_eq]
   ·
    rw [show (e.Kind == 2) = false by simp [h2], cond_false, cond_false]
    have a := ioutcomes_b f _ st (h.kid (i := 0) (by omega))
    rw [ih _ st (h.kid (i := 0) (by omega))]
    generalize ioutcomes_r f (List.getD e.Kids 0 Xpr.zero) st = x at *
    by_cases h3 : e.Kind = 10
    ·
     rw [show (e.Kind == 10) = true by simp [h3], cond_true, cond_true]
    ·
     rw [show (e.Kind == 10) = false by simp [h3], cond_false, cond_false]
     by_cases h4 : e.Kind = 11
     ·
      rw [show (e.Kind == 11) = true by simp [h4], cond_true, cond_true, an_eq a]
      generalize (bits .and .i64 x 4 != 0) = p
      generalize (bits .and .i64 x 3 != 0) = q
      revert p q
      decide +kernel
     ·
      rw [show (e.Kind == 11) = false by simp [h4], cond_false, cond_false]
      have b := ioutcomes_b f _ st (h.kid (i := 1) (by omega))
      rw [ih _ st (h.kid (i := 1) (by omega))]
      generalize ioutcomes_r f (List.getD e.Kids 1 Xpr.zero) st = y at *
      obtain ⟨n, rfl⟩ := Int.eq_ofNat_of_zero_le a.1
      obtain ⟨m, rfl⟩ := Int.eq_ofNat_of_zero_le b.1
      by_cases h8 : e.Kind = 8
      ·
       rw [h8]
       rw [show ((8 : Int) == 8) = true from rfl, cond_true, cond_true]
       exact beq_iff_eq.1 (ts8 ⟨n, by omega⟩ ⟨m, by omega⟩)
      ·
       by_cases h9 : e.Kind = 9
       ·
        rw [h9]
        rw [show ((9 : Int) == 8) = false from rfl, show ((9 : Int) == 9) = true from rfl, cond_false, cond_true]
        exact beq_iff_eq.1 (ts9 ⟨n, by omega⟩ ⟨m, by omega⟩)
       ·
        unfold combinedStates
        rw [an_eq a, an_eq b, show (e.Kind == 8) = false by simp [h8], show (e.Kind == 9) = false by simp [h9], cond_false, cond_false, cond_false]
        have hk : e.Kind = 3 ∨ e.Kind = 4 ∨ e.Kind = 5 ∨ e.Kind = 6 ∨ e.Kind = 7 := by omega
        generalize ((bits .and .i64 (bits .or .i64 (n : Int) (m : Int)) 4) != 0) = p1
        generalize (bif ((bits .and .i64 (n : Int) 3) != 0) then ((bits .and .i64 (m : Int) 3) != 0) else false) = p2
        revert p1 p2
        rcases hk with hk | hk | hk | hk | hk <;> rw [hk] <;> decide +kernel

theorem outcomes_b (f : Nat) (e : Xpr) (st : List Int) (h : VX st e) : 0 ≤ outcomes_r f e st ∧ outcomes_r f e st ≤ 7 := by
 rw [outcomes_eq f e st h]
 exact ioutcomes_b f e st h

theorem outcomes_okn (fuel : Nat) : FnOK Try.prog 24 (outcomes_spn fuel) := by
 induction fuel with
 | zero => exact FnOK.never Try.func24 (by kernel_rfl) rfl (fun _ _ h => absurd h.2 (Nat.not_lt_zero _))
 | succ fuel ih => ?_
 have hC : CtxOK Try.prog (mkCtx tyL [(24, (outcomes_spn fuel)), (37, stateOf_sp), (38, truthStates_sp)]) := CtxOK.cons ih (CtxOK.cons stateOf_ok (CtxOK.cons truthStates_ok (CtxOK.nil tyOK)))
 refine FnOK.of_body Try.func24 (by kernel_rfl) rfl (C := (mkCtx tyL [(24, (outcomes_spn fuel)), (37, stateOf_sp), (38, truthStates_sp)])) hC.ty (by kernel_rfl) ?_
 intro (e : Xpr) (st : List Int) hwf hpre E
 have hpre : (VX st e) ∧ SizeOf.sizeOf e < fuel + 1 := hpre
 have hw_e : Wf ⟨(.named 1), (e : Xpr)⟩ := hwf _ (List.Mem.head _)
 obtain ⟨hr_e_Kind, hr_e_Col, hl_e_Kids⟩ := Xpr.wfl hw_e
 have hw_st : Wf ⟨(.slice (.int .i64)), (st : List Int)⟩ := hwf _ (List.Mem.tail _ (List.Mem.head _))
 have hl_st : ((List.length st : Nat) : Int) ≤ 9223372036854775807 := hw_st.len
 have hn := hpre.1.node
 have hnk := hn.kids
 have hkc := kids_cases (Xpr.Kind e)
 have hcol := hn.col
 have e0 : outcomes_r (fuel + 1) e st = outcomes_r (fuel + 1) e st := rfl
 refine AW.seq (AW.r1 hC [1, 2] [8] ⟨[(1, sD6 st), (2, .ref 8 1 0)], [(8, .box 1 [sI (Xpr.Kind e), sI (Xpr.Col e), sB (Val.Null (Xpr.V e)), sI (Val.N (Xpr.V e)), sD9 (Xpr.Kids e)])]⟩ ?_)
 refine AW.seq (AW.seq (AW.r1 hC [1, 2, 9] [8] ⟨[(1, sD6 st), (2, .ref 8 1 0), (9, sI (Xpr.Kind e))], [(8, .box 1 [sI (Xpr.Kind e), sI (Xpr.Col e), sB (Val.Null (Xpr.V e)), sI (Val.N (Xpr.V e)), sD9 (Xpr.Kids e)])]⟩ ?_))
 refine AW.block (AW.seq (AW.r1 hC [1, 2, 9, 10] [8] ⟨[(1, sD6 st), (2, .ref 8 1 0), (9, sI (Xpr.Kind e)), (10, sB ((Xpr.Kind e) == 1))], [(8, .box 1 [sI (Xpr.Kind e), sI (Xpr.Col e), sB (Val.Null (Xpr.V e)), sI (Val.N (Xpr.V e)), sD9 (Xpr.Kids e)])]⟩ ?_))
 refine AW.cd ((Xpr.Kind e) == 1) ?_ ?_
 ·
  intro h1
  have h1q := (Go.Am.beq_pos h1)
  have e2 := e0.trans (Go.Am.bif_t h1)
  refine AW.seq (AW.r0 hC [4] [] ⟨[(4, sI (List.getD st (Int.toNat (Xpr.Col e)) 0))], []⟩ [IX (Xpr.Col e) ((List.length st : Nat) : Int)] ?_ ?_)
  ·
   refine ⟨?_, trivial⟩
   ·
    refine IX.of ?_
    first | omega | (dsimp only; omega) | (simp only [lens] at *; omega)
  exact AW.ret (AW.rI (List.getD st (Int.toNat (Xpr.Col e)) 0) e2)
 ·
  intro h3
  have h3q := (Go.Am.beq_neg h3)
  have e4 := e0.trans (Go.Am.bif_f h3)
  refine AW.seq (AW.r1 hC [1, 2, 17] [8] ⟨[(1, sD6 st), (2, .ref 8 1 0), (17, sB ((Xpr.Kind e) == 2))], [(8, .box 1 [sI (Xpr.Kind e), sI (Xpr.Col e), sB (Val.Null (Xpr.V e)), sI (Val.N (Xpr.V e)), sD9 (Xpr.Kids e)])]⟩ ?_)
  refine AW.cd ((Xpr.Kind e) == 2) ?_ ?_
  ·
   intro h5
   have h5q := (Go.Am.beq_pos h5)
   have e6 := e4.trans (Go.Am.bif_t h5)
   refine AW.seq (AW.r0 hC [4] [] ⟨[(4, sI (stateOf (Xpr.V e)))], []⟩ [(True)] ?_ ?_)
   ·
    refine ⟨?_, trivial⟩
    ·
     trivial
   exact AW.ret (AW.rI (stateOf (Xpr.V e)) e6)
  ·
   intro h7
   have h7q := (Go.Am.beq_neg h7)
   have e8 := e4.trans (Go.Am.bif_f h7)
   refine AW.kp [1, 2] [8] ⟨[(1, sD6 st), (2, .ref 8 1 0)], [(8, .box 1 [sI (Xpr.Kind e), sI (Xpr.Col e), sB (Val.Null (Xpr.V e)), sI (Val.N (Xpr.V e)), sD9 (Xpr.Kids e)])]⟩ ?_
   refine AW.skip (AW.seq (AW.r0 hC [1, 2, 5] [8] ⟨[(1, sD6 st), (2, .ref 8 1 0), (5, sI ((outcomes_r fuel) (List.getD (Xpr.Kids e) 0 Xpr.zero) st))], [(8, .box 1 [sI (Xpr.Kind e), sI (Xpr.Col e), sB (Val.Null (Xpr.V e)), sI (Val.N (Xpr.V e)), sD9 (Xpr.Kids e)])]⟩ [IX (0 : Int) ((List.length (Xpr.Kids e) : Nat) : Int), ((VX st (List.getD (Xpr.Kids e) 0 Xpr.zero)) ∧ SizeOf.sizeOf (List.getD (Xpr.Kids e) 0 Xpr.zero) < fuel)] ?_ ?_))
   ·
    refine ⟨?_, ?_, trivial⟩
    ·
     refine IX.of ?_
     first | omega | (dsimp only; omega) | (simp only [lens] at *; omega)
    ·
     exact ⟨hpre.1.kid (by omega), Nat.lt_of_lt_of_le (kid_lt (by omega)) (Nat.le_of_lt_succ hpre.2)⟩
   refine AW.seq (AW.r1 hC [1, 2, 5, 6] [8] ⟨[(1, sD6 st), (2, .ref 8 1 0), (5, sI ((outcomes_r fuel) (List.getD (Xpr.Kids e) 0 Xpr.zero) st)), (6, sI 0)], [(8, .box 1 [sI (Xpr.Kind e), sI (Xpr.Col e), sB (Val.Null (Xpr.V e)), sI (Val.N (Xpr.V e)), sD9 (Xpr.Kids e)])]⟩ ?_)
   refine AW.seq (AW.seq (AW.r1 hC [1, 2, 5, 6, 29] [8] ⟨[(1, sD6 st), (2, .ref 8 1 0), (5, sI ((outcomes_r fuel) (List.getD (Xpr.Kids e) 0 Xpr.zero) st)), (6, sI 0), (29, sI (Xpr.Kind e))], [(8, .box 1 [sI (Xpr.Kind e), sI (Xpr.Col e), sB (Val.Null (Xpr.V e)), sI (Val.N (Xpr.V e)), sD9 (Xpr.Kids e)])]⟩ ?_))
   refine AW.block (AW.seq (AW.r1 hC [1, 2, 5, 6, 29, 30] [8] ⟨[(1, sD6 st), (2, .ref 8 1 0), (5, sI ((outcomes_r fuel) (List.getD (Xpr.Kids e) 0 Xpr.zero) st)), (6, sI 0), (29, sI (Xpr.Kind e)), (30, sB ((Xpr.Kind e) == 10))], [(8, .box 1 [sI (Xpr.Kind e), sI (Xpr.Col e), sB (Val.Null (Xpr.V e)), sI (Val.N (Xpr.V e)), sD9 (Xpr.Kids e)])]⟩ ?_))
   refine AW.cd ((Xpr.Kind e) == 10) ?_ ?_
   ·
    intro h9
    have h9q := (Go.Am.beq_pos h9)
    have e10 := e8.trans (Go.Am.bif_t h9)
    refine AW.seq (AW.r0 hC [4] [] ⟨[(4, sI (bits .or .i64 (bits .or .i64 (bits .and .i64 ((outcomes_r fuel) (List.getD (Xpr.Kids e) 0 Xpr.zero) st) 4) ((bits .and .i64 ((outcomes_r fuel) (List.getD (Xpr.Kids e) 0 Xpr.zero) st) 1) * 2 ^ 1)) ((bits .and .i64 ((outcomes_r fuel) (List.getD (Xpr.Kids e) 0 Xpr.zero) st) 2) / 2 ^ 1)))], []⟩ [(0 ≤ (1 : Int) ∧ (1 : Int) ≤ 64), R64 ((bits .and .i64 ((outcomes_r fuel) (List.getD (Xpr.Kids e) 0 Xpr.zero) st) 1) * 2 ^ 1), (0 ≤ (1 : Int) ∧ (1 : Int) ≤ 64)] ?_ ?_)
    ·
     refine ⟨?_, ?_, ?_, trivial⟩
     ·
      first | omega | (dsimp only; omega) | (simp only [lens] at *; omega)
     ·
      refine R64.of ?_
      have ha := andOneB (outcomes_b fuel _ _ (hpre.1.kid (i := 0) (by omega)))
      omega
     ·
      first | omega | (dsimp only; omega) | (simp only [lens] at *; omega)
    exact AW.ret (AW.rI (bits .or .i64 (bits .or .i64 (bits .and .i64 ((outcomes_r fuel) (List.getD (Xpr.Kids e) 0 Xpr.zero) st) 4) ((bits .and .i64 ((outcomes_r fuel) (List.getD (Xpr.Kids e) 0 Xpr.zero) st) 1) * 2 ^ 1)) ((bits .and .i64 ((outcomes_r fuel) (List.getD (Xpr.Kids e) 0 Xpr.zero) st) 2) / 2 ^ 1)) e10)
   ·
    intro h11
    have h11q := (Go.Am.beq_neg h11)
    have e12 := e8.trans (Go.Am.bif_f h11)
    refine AW.seq (AW.r1 hC [1, 2, 5, 6, 42] [8] ⟨[(1, sD6 st), (2, .ref 8 1 0), (5, sI ((outcomes_r fuel) (List.getD (Xpr.Kids e) 0 Xpr.zero) st)), (6, sI 0), (42, sB ((Xpr.Kind e) == 11))], [(8, .box 1 [sI (Xpr.Kind e), sI (Xpr.Col e), sB (Val.Null (Xpr.V e)), sI (Val.N (Xpr.V e)), sD9 (Xpr.Kids e)])]⟩ ?_)
    refine AW.cd ((Xpr.Kind e) == 11) ?_ ?_
    ·
     intro h13
     have h13q := (Go.Am.beq_pos h13)
     have e14 := e12.trans (Go.Am.bif_t h13)
     refine AW.seq (AW.seq (AW.r1 hC [5, 6, 46] [] ⟨[(5, sI ((outcomes_r fuel) (List.getD (Xpr.Kids e) 0 Xpr.zero) st)), (6, sI 0), (46, sB ((bits .and .i64 ((outcomes_r fuel) (List.getD (Xpr.Kids e) 0 Xpr.zero) st) 4) != 0))], []⟩ ?_))
     refine AW.cd ((bits .and .i64 ((outcomes_r fuel) (List.getD (Xpr.Kids e) 0 Xpr.zero) st) 4) != 0) ?_ ?_
     ·
      intro h15
      have h15q := (Go.Am.bne_pos h15)
      have e16 := e14.trans (Go.Am.bif_t h15)
      refine AW.r1 hC [5, 6] [] ⟨[(5, sI ((outcomes_r fuel) (List.getD (Xpr.Kids e) 0 Xpr.zero) st)), (6, sI 2)], []⟩ ?_
      refine AW.seq (AW.seq (AW.r1 hC [6, 49] [] ⟨[(6, sI 2), (49, sB ((bits .and .i64 ((outcomes_r fuel) (List.getD (Xpr.Kids e) 0 Xpr.zero) st) 3) != 0))], []⟩ ?_))
      refine AW.cd ((bits .and .i64 ((outcomes_r fuel) (List.getD (Xpr.Kids e) 0 Xpr.zero) st) 3) != 0) ?_ ?_
      ·
       intro h17
       have h17q := (Go.Am.bne_pos h17)
       have e18 := e16.trans (Go.Am.bif_t h17)
       refine AW.r1 hC [6] [] ⟨[(6, sI (bits .or .i64 2 1))], []⟩ ?_
       refine AW.seq (AW.r1 hC [4] [] ⟨[(4, sI (bits .or .i64 2 1))], []⟩ ?_)
       exact AW.ret (AW.rI (bits .or .i64 2 1) e18)
      ·
       intro h19
       have h19q := (Go.Am.bne_neg h19)
       have e20 := e16.trans (Go.Am.bif_f h19)
       refine AW.kp [6] [] ⟨[(6, sI 2)], []⟩ ?_
       refine AW.skip (AW.seq (AW.r1 hC [4] [] ⟨[(4, sI 2)], []⟩ ?_))
       exact AW.ret (AW.rI 2 e20)
     ·
      intro h21
      have h21q := (Go.Am.bne_neg h21)
      have e22 := e14.trans (Go.Am.bif_f h21)
      refine AW.kp [5, 6] [] ⟨[(5, sI ((outcomes_r fuel) (List.getD (Xpr.Kids e) 0 Xpr.zero) st)), (6, sI 0)], []⟩ ?_
      refine AW.skip (AW.seq (AW.seq (AW.r1 hC [6, 49] [] ⟨[(6, sI 0), (49, sB ((bits .and .i64 ((outcomes_r fuel) (List.getD (Xpr.Kids e) 0 Xpr.zero) st) 3) != 0))], []⟩ ?_)))
      refine AW.cd ((bits .and .i64 ((outcomes_r fuel) (List.getD (Xpr.Kids e) 0 Xpr.zero) st) 3) != 0) ?_ ?_
      ·
       intro h23
       have h23q := (Go.Am.bne_pos h23)
       have e24 := e22.trans (Go.Am.bif_t h23)
       refine AW.r1 hC [6] [] ⟨[(6, sI (bits .or .i64 0 1))], []⟩ ?_
       refine AW.seq (AW.r1 hC [4] [] ⟨[(4, sI (bits .or .i64 0 1))], []⟩ ?_)
       exact AW.ret (AW.rI (bits .or .i64 0 1) e24)
      ·
       intro h25
       have h25q := (Go.Am.bne_neg h25)
       have e26 := e22.trans (Go.Am.bif_f h25)
       refine AW.kp [6] [] ⟨[(6, sI 0)], []⟩ ?_
       refine AW.skip (AW.seq (AW.r1 hC [4] [] ⟨[(4, sI 0)], []⟩ ?_))
       exact AW.ret (AW.rI 0 e26)
    ·
     intro h27
     have h27q := (Go.Am.beq_neg h27)
     have e28 := e12.trans (Go.Am.bif_f h27)
     refine AW.kp [1, 2, 5, 6] [8] ⟨[(1, sD6 st), (2, .ref 8 1 0), (5, sI ((outcomes_r fuel) (List.getD (Xpr.Kids e) 0 Xpr.zero) st)), (6, sI 0)], [(8, .box 1 [sI (Xpr.Kind e), sI (Xpr.Col e), sB (Val.Null (Xpr.V e)), sI (Val.N (Xpr.V e)), sD9 (Xpr.Kids e)])]⟩ ?_
     refine AW.skip (AW.seq (AW.r0 hC [2, 5, 6, 7] [8] ⟨[(2, .ref 8 1 0), (5, sI ((outcomes_r fuel) (List.getD (Xpr.Kids e) 0 Xpr.zero) st)), (6, sI 0), (7, sI ((outcomes_r fuel) (List.getD (Xpr.Kids e) 1 Xpr.zero) st))], [(8, .box 1 [sI (Xpr.Kind e), sI (Xpr.Col e), sB (Val.Null (Xpr.V e)), sI (Val.N (Xpr.V e)), sD9 (Xpr.Kids e)])]⟩ [IX (1 : Int) ((List.length (Xpr.Kids e) : Nat) : Int), ((VX st (List.getD (Xpr.Kids e) 1 Xpr.zero)) ∧ SizeOf.sizeOf (List.getD (Xpr.Kids e) 1 Xpr.zero) < fuel)] ?_ ?_))
     ·
      refine ⟨?_, ?_, trivial⟩
      ·
       refine IX.of ?_
       first | omega | (dsimp only; omega) | (simp only [lens] at *; omega)
      ·
       exact ⟨hpre.1.kid (by omega), Nat.lt_of_lt_of_le (kid_lt (by omega)) (Nat.le_of_lt_succ hpre.2)⟩
     refine AW.seq (AW.seq (AW.r0 hC [2, 5, 6, 7, 66] [8] ⟨[(2, .ref 8 1 0), (5, sI ((outcomes_r fuel) (List.getD (Xpr.Kids e) 0 Xpr.zero) st)), (6, sI 0), (7, sI ((outcomes_r fuel) (List.getD (Xpr.Kids e) 1 Xpr.zero) st)), (66, sB (bif ((Xpr.Kind e) == 8) then true else ((Xpr.Kind e) == 9)))], [(8, .box 1 [sI (Xpr.Kind e), sI (Xpr.Col e), sB (Val.Null (Xpr.V e)), sI (Val.N (Xpr.V e)), sD9 (Xpr.Kids e)])]⟩ [((((Xpr.Kind e) == 8) = false) → ((((Xpr.Kind e) == 8) = false))), ((((Xpr.Kind e) == 8) = false) → ((((Xpr.Kind e) == 8) = false))), ((((Xpr.Kind e) == 8) = false) → ((((Xpr.Kind e) == 8) = false)))] ?_ ?_))
     ·
      refine ⟨?_, ?_, ?_, trivial⟩
      ·
       intro g29
       have g29p0 : (Xpr.Kind e) ≠ 8 := (Go.Am.beq_neg g29)
       first | assumption | exact ⟨by assumption, by assumption⟩
      ·
       intro g30
       have g30p0 : (Xpr.Kind e) ≠ 8 := (Go.Am.beq_neg g30)
       first | assumption | exact ⟨by assumption, by assumption⟩
      ·
       intro g31
       have g31p0 : (Xpr.Kind e) ≠ 8 := (Go.Am.beq_neg g31)
       first | assumption | exact ⟨by assumption, by assumption⟩
     refine AW.cd (bif ((Xpr.Kind e) == 8) then true else ((Xpr.Kind e) == 9)) ?_ ?_
     ·
      intro h32
      have h32q : ((Xpr.Kind e) = 8) ∨ ((Xpr.Kind e) = 9) := (Or.imp (fun h => (Go.Am.beq_pos h)) (fun h => (Go.Am.beq_pos h)) (Go.Am.or_pos h32))
      have e33 := e28.trans (Go.Am.bif_t h32)
      refine AW.seq (AW.r0 hC [4] [] ⟨[(4, sI (truthStates (Xpr.Kind e) ((outcomes_r fuel) (List.getD (Xpr.Kids e) 0 Xpr.zero) st) ((outcomes_r fuel) (List.getD (Xpr.Kids e) 1 Xpr.zero) st)))], []⟩ [((0 ≤ ((outcomes_r fuel) (List.getD (Xpr.Kids e) 0 Xpr.zero) st) ∧ ((outcomes_r fuel) (List.getD (Xpr.Kids e) 0 Xpr.zero) st) ≤ 7) ∧ (0 ≤ ((outcomes_r fuel) (List.getD (Xpr.Kids e) 1 Xpr.zero) st) ∧ ((outcomes_r fuel) (List.getD (Xpr.Kids e) 1 Xpr.zero) st) ≤ 7))] ?_ ?_)
      ·
       refine ⟨?_, trivial⟩
       ·
        exact ⟨outcomes_b fuel _ _ (hpre.1.kid (by omega)), outcomes_b fuel _ _ (hpre.1.kid (by omega))⟩
      exact AW.ret (AW.rI (truthStates (Xpr.Kind e) ((outcomes_r fuel) (List.getD (Xpr.Kids e) 0 Xpr.zero) st) ((outcomes_r fuel) (List.getD (Xpr.Kids e) 1 Xpr.zero) st)) e33)
     ·
      intro h34
      have h34q : ((Xpr.Kind e) ≠ 8) ∧ ((Xpr.Kind e) ≠ 9) := (And.imp (fun h => (Go.Am.beq_neg h)) (fun h => (Go.Am.beq_neg h)) (Go.Am.or_neg h34))
      have e35 := e28.trans (Go.Am.bif_f h34)
      refine AW.kp [2, 5, 6, 7] [8] ⟨[(2, .ref 8 1 0), (5, sI ((outcomes_r fuel) (List.getD (Xpr.Kids e) 0 Xpr.zero) st)), (6, sI 0), (7, sI ((outcomes_r fuel) (List.getD (Xpr.Kids e) 1 Xpr.zero) st))], [(8, .box 1 [sI (Xpr.Kind e), sI (Xpr.Col e), sB (Val.Null (Xpr.V e)), sI (Val.N (Xpr.V e)), sD9 (Xpr.Kids e)])]⟩ ?_
      refine AW.skip (AW.seq (AW.seq (AW.r1 hC [2, 5, 6, 7, 76] [8] ⟨[(2, .ref 8 1 0), (5, sI ((outcomes_r fuel) (List.getD (Xpr.Kids e) 0 Xpr.zero) st)), (6, sI 0), (7, sI ((outcomes_r fuel) (List.getD (Xpr.Kids e) 1 Xpr.zero) st)), (76, sB ((bits .and .i64 (bits .or .i64 ((outcomes_r fuel) (List.getD (Xpr.Kids e) 0 Xpr.zero) st) ((outcomes_r fuel) (List.getD (Xpr.Kids e) 1 Xpr.zero) st)) 4) != 0))], [(8, .box 1 [sI (Xpr.Kind e), sI (Xpr.Col e), sB (Val.Null (Xpr.V e)), sI (Val.N (Xpr.V e)), sD9 (Xpr.Kids e)])]⟩ ?_)))
      refine AW.cd ((bits .and .i64 (bits .or .i64 ((outcomes_r fuel) (List.getD (Xpr.Kids e) 0 Xpr.zero) st) ((outcomes_r fuel) (List.getD (Xpr.Kids e) 1 Xpr.zero) st)) 4) != 0) ?_ ?_
      ·
       intro h36
       have h36q := (Go.Am.bne_pos h36)
       have e37 := e35.trans (Go.Am.bif_t h36)
       refine AW.r1 hC [2, 5, 6, 7] [8] ⟨[(2, .ref 8 1 0), (5, sI ((outcomes_r fuel) (List.getD (Xpr.Kids e) 0 Xpr.zero) st)), (6, sI 4), (7, sI ((outcomes_r fuel) (List.getD (Xpr.Kids e) 1 Xpr.zero) st))], [(8, .box 1 [sI (Xpr.Kind e), sI (Xpr.Col e), sB (Val.Null (Xpr.V e)), sI (Val.N (Xpr.V e)), sD9 (Xpr.Kids e)])]⟩ ?_
       refine AW.seq (AW.seq (AW.r0 hC [2, 6, 84] [8] ⟨[(2, .ref 8 1 0), (6, sI 4), (84, sB (bif ((bits .and .i64 ((outcomes_r fuel) (List.getD (Xpr.Kids e) 0 Xpr.zero) st) 3) != 0) then ((bits .and .i64 ((outcomes_r fuel) (List.getD (Xpr.Kids e) 1 Xpr.zero) st) 3) != 0) else false))], [(8, .box 1 [sI (Xpr.Kind e), sI (Xpr.Col e), sB (Val.Null (Xpr.V e)), sI (Val.N (Xpr.V e)), sD9 (Xpr.Kids e)])]⟩ [((((bits .and .i64 ((outcomes_r fuel) (List.getD (Xpr.Kids e) 0 Xpr.zero) st) 3) != 0) = true) → ((((bits .and .i64 ((outcomes_r fuel) (List.getD (Xpr.Kids e) 0 Xpr.zero) st) 3) != 0) = true))), ((((bits .and .i64 ((outcomes_r fuel) (List.getD (Xpr.Kids e) 0 Xpr.zero) st) 3) != 0) = true) → ((((bits .and .i64 ((outcomes_r fuel) (List.getD (Xpr.Kids e) 0 Xpr.zero) st) 3) != 0) = true))), ((((bits .and .i64 ((outcomes_r fuel) (List.getD (Xpr.Kids e) 0 Xpr.zero) st) 3) != 0) = true) → ((((bits .and .i64 ((outcomes_r fuel) (List.getD (Xpr.Kids e) 0 Xpr.zero) st) 3) != 0) = true)))] ?_ ?_))
       ·
        refine ⟨?_, ?_, ?_, trivial⟩
        ·
         intro g38
         have g38p0 : (bits .and .i64 ((outcomes_r fuel) (List.getD (Xpr.Kids e) 0 Xpr.zero) st) 3) ≠ 0 := (Go.Am.bne_pos g38)
         first | assumption | exact ⟨by assumption, by assumption⟩
        ·
         intro g39
         have g39p0 : (bits .and .i64 ((outcomes_r fuel) (List.getD (Xpr.Kids e) 0 Xpr.zero) st) 3) ≠ 0 := (Go.Am.bne_pos g39)
         first | assumption | exact ⟨by assumption, by assumption⟩
        ·
         intro g40
         have g40p0 : (bits .and .i64 ((outcomes_r fuel) (List.getD (Xpr.Kids e) 0 Xpr.zero) st) 3) ≠ 0 := (Go.Am.bne_pos g40)
         first | assumption | exact ⟨by assumption, by assumption⟩
       refine AW.cd (bif ((bits .and .i64 ((outcomes_r fuel) (List.getD (Xpr.Kids e) 0 Xpr.zero) st) 3) != 0) then ((bits .and .i64 ((outcomes_r fuel) (List.getD (Xpr.Kids e) 1 Xpr.zero) st) 3) != 0) else false) ?_ ?_
       ·
        intro h41
        have h41q : ((bits .and .i64 ((outcomes_r fuel) (List.getD (Xpr.Kids e) 0 Xpr.zero) st) 3) ≠ 0) ∧ ((bits .and .i64 ((outcomes_r fuel) (List.getD (Xpr.Kids e) 1 Xpr.zero) st) 3) ≠ 0) := (And.imp (fun h => (Go.Am.bne_pos h)) (fun h => (Go.Am.bne_pos h)) (Go.Am.and_pos h41))
        have e42 := e37.trans (Go.Am.bif_t h41)
        refine AW.seq (AW.r1 hC [2, 6] [8] ⟨[(2, .ref 8 1 0), (6, sI (bits .or .i64 4 3))], [(8, .box 1 [sI (Xpr.Kind e), sI (Xpr.Col e), sB (Val.Null (Xpr.V e)), sI (Val.N (Xpr.V e)), sD9 (Xpr.Kids e)])]⟩ ?_)
        refine AW.seq (AW.r1 hC [6, 89] [] ⟨[(6, sI (bits .or .i64 4 3)), (89, sB (decide ((Xpr.Kind e) < 6)))], []⟩ ?_)
        refine AW.cd (decide ((Xpr.Kind e) < 6)) ?_ ?_
        ·
         intro h43
         have h43q := (of_decide_eq_true h43)
         have e44 := e42.trans (Go.Am.bif_t h43)
         refine AW.r1 hC [6] [] ⟨[(6, sI (bits .or .i64 (bits .or .i64 4 3) 4))], []⟩ ?_
         refine AW.seq (AW.r1 hC [4] [] ⟨[(4, sI (bits .or .i64 (bits .or .i64 4 3) 4))], []⟩ ?_)
         exact AW.ret (AW.rI (bits .or .i64 (bits .or .i64 4 3) 4) e44)
        ·
         intro h45
         have h45q := (of_decide_eq_false h45)
         have e46 := e42.trans (Go.Am.bif_f h45)
         refine AW.kp [6] [] ⟨[(6, sI (bits .or .i64 4 3))], []⟩ ?_
         refine AW.skip (AW.seq (AW.r1 hC [4] [] ⟨[(4, sI (bits .or .i64 4 3))], []⟩ ?_))
         exact AW.ret (AW.rI (bits .or .i64 4 3) e46)
       ·
        intro h47
        have h47q : ((bits .and .i64 ((outcomes_r fuel) (List.getD (Xpr.Kids e) 0 Xpr.zero) st) 3) = 0) ∨ ((bits .and .i64 ((outcomes_r fuel) (List.getD (Xpr.Kids e) 1 Xpr.zero) st) 3) = 0) := (Or.imp (fun h => (Go.Am.bne_neg h)) (fun h => (Go.Am.bne_neg h)) (Go.Am.and_neg h47))
        have e48 := e37.trans (Go.Am.bif_f h47)
        refine AW.kp [6] [] ⟨[(6, sI 4)], []⟩ ?_
        refine AW.skip (AW.seq (AW.r1 hC [4] [] ⟨[(4, sI 4)], []⟩ ?_))
        exact AW.ret (AW.rI 4 e48)
      ·
       intro h49
       have h49q := (Go.Am.bne_neg h49)
       have e50 := e35.trans (Go.Am.bif_f h49)
       refine AW.kp [2, 5, 6, 7] [8] ⟨[(2, .ref 8 1 0), (5, sI ((outcomes_r fuel) (List.getD (Xpr.Kids e) 0 Xpr.zero) st)), (6, sI 0), (7, sI ((outcomes_r fuel) (List.getD (Xpr.Kids e) 1 Xpr.zero) st))], [(8, .box 1 [sI (Xpr.Kind e), sI (Xpr.Col e), sB (Val.Null (Xpr.V e)), sI (Val.N (Xpr.V e)), sD9 (Xpr.Kids e)])]⟩ ?_
       refine AW.skip (AW.seq (AW.seq (AW.r0 hC [2, 6, 84] [8] ⟨[(2, .ref 8 1 0), (6, sI 0), (84, sB (bif ((bits .and .i64 ((outcomes_r fuel) (List.getD (Xpr.Kids e) 0 Xpr.zero) st) 3) != 0) then ((bits .and .i64 ((outcomes_r fuel) (List.getD (Xpr.Kids e) 1 Xpr.zero) st) 3) != 0) else false))], [(8, .box 1 [sI (Xpr.Kind e), sI (Xpr.Col e), sB (Val.Null (Xpr.V e)), sI (Val.N (Xpr.V e)), sD9 (Xpr.Kids e)])]⟩ [((((bits .and .i64 ((outcomes_r fuel) (List.getD (Xpr.Kids e) 0 Xpr.zero) st) 3) != 0) = true) → ((((bits .and .i64 ((outcomes_r fuel) (List.getD (Xpr.Kids e) 0 Xpr.zero) st) 3) != 0) = true))), ((((bits .and .i64 ((outcomes_r fuel) (List.getD (Xpr.Kids e) 0 Xpr.zero) st) 3) != 0) = true) → ((((bits .and .i64 ((outcomes_r fuel) (List.getD (Xpr.Kids e) 0 Xpr.zero) st) 3) != 0) = true))), ((((bits .and .i64 ((outcomes_r fuel) (List.getD (Xpr.Kids e) 0 Xpr.zero) st) 3) != 0) = true) → ((((bits .and .i64 ((outcomes_r fuel) (List.getD (Xpr.Kids e) 0 Xpr.zero) st) 3) != 0) = true)))] ?_ ?_)))
       ·
        refine ⟨?_, ?_, ?_, trivial⟩
        ·
         intro g51
         have g51p0 : (bits .and .i64 ((outcomes_r fuel) (List.getD (Xpr.Kids e) 0 Xpr.zero) st) 3) ≠ 0 := (Go.Am.bne_pos g51)
         first | assumption | exact ⟨by assumption, by assumption⟩
        ·
         intro g52
         have g52p0 : (bits .and .i64 ((outcomes_r fuel) (List.getD (Xpr.Kids e) 0 Xpr.zero) st) 3) ≠ 0 := (Go.Am.bne_pos g52)
         first | assumption | exact ⟨by assumption, by assumption⟩
        ·
         intro g53
         have g53p0 : (bits .and .i64 ((outcomes_r fuel) (List.getD (Xpr.Kids e) 0 Xpr.zero) st) 3) ≠ 0 := (Go.Am.bne_pos g53)
         first | assumption | exact ⟨by assumption, by assumption⟩
       refine AW.cd (bif ((bits .and .i64 ((outcomes_r fuel) (List.getD (Xpr.Kids e) 0 Xpr.zero) st) 3) != 0) then ((bits .and .i64 ((outcomes_r fuel) (List.getD (Xpr.Kids e) 1 Xpr.zero) st) 3) != 0) else false) ?_ ?_
       ·
        intro h54
        have h54q : ((bits .and .i64 ((outcomes_r fuel) (List.getD (Xpr.Kids e) 0 Xpr.zero) st) 3) ≠ 0) ∧ ((bits .and .i64 ((outcomes_r fuel) (List.getD (Xpr.Kids e) 1 Xpr.zero) st) 3) ≠ 0) := (And.imp (fun h => (Go.Am.bne_pos h)) (fun h => (Go.Am.bne_pos h)) (Go.Am.and_pos h54))
        have e55 := e50.trans (Go.Am.bif_t h54)
        refine AW.seq (AW.r1 hC [2, 6] [8] ⟨[(2, .ref 8 1 0), (6, sI (bits .or .i64 0 3))], [(8, .box 1 [sI (Xpr.Kind e), sI (Xpr.Col e), sB (Val.Null (Xpr.V e)), sI (Val.N (Xpr.V e)), sD9 (Xpr.Kids e)])]⟩ ?_)
        refine AW.seq (AW.r1 hC [6, 89] [] ⟨[(6, sI (bits .or .i64 0 3)), (89, sB (decide ((Xpr.Kind e) < 6)))], []⟩ ?_)
        refine AW.cd (decide ((Xpr.Kind e) < 6)) ?_ ?_
        ·
         intro h56
         have h56q := (of_decide_eq_true h56)
         have e57 := e55.trans (Go.Am.bif_t h56)
         refine AW.r1 hC [6] [] ⟨[(6, sI (bits .or .i64 (bits .or .i64 0 3) 4))], []⟩ ?_
         refine AW.seq (AW.r1 hC [4] [] ⟨[(4, sI (bits .or .i64 (bits .or .i64 0 3) 4))], []⟩ ?_)
         exact AW.ret (AW.rI (bits .or .i64 (bits .or .i64 0 3) 4) e57)
        ·
         intro h58
         have h58q := (of_decide_eq_false h58)
         have e59 := e55.trans (Go.Am.bif_f h58)
         refine AW.kp [6] [] ⟨[(6, sI (bits .or .i64 0 3))], []⟩ ?_
         refine AW.skip (AW.seq (AW.r1 hC [4] [] ⟨[(4, sI (bits .or .i64 0 3))], []⟩ ?_))
         exact AW.ret (AW.rI (bits .or .i64 0 3) e59)
       ·
        intro h60
        have h60q : ((bits .and .i64 ((outcomes_r fuel) (List.getD (Xpr.Kids e) 0 Xpr.zero) st) 3) = 0) ∨ ((bits .and .i64 ((outcomes_r fuel) (List.getD (Xpr.Kids e) 1 Xpr.zero) st) 3) = 0) := (Or.imp (fun h => (Go.Am.bne_neg h)) (fun h => (Go.Am.bne_neg h)) (Go.Am.and_neg h60))
        have e61 := e50.trans (Go.Am.bif_f h60)
        refine AW.kp [6] [] ⟨[(6, sI 0)], []⟩ ?_
        refine AW.skip (AW.seq (AW.r1 hC [4] [] ⟨[(4, sI 0)], []⟩ ?_))
        exact AW.ret (AW.rI 0 e61)

theorem outcomes_fu : AllTV (outcomes_sp.ps.map PK.ty) (fun tvs => outcomes_sp.pre tvs → ∃ k, (outcomes_spn k).pre tvs ∧ (outcomes_spn k).fn tvs = outcomes_sp.fn tvs ∧ (outcomes_spn k).bx tvs = outcomes_sp.bx tvs) :=
 (fun (e : Xpr) (st : List Int) h => ⟨SizeOf.sizeOf e + 1, (show (VX st e) ∧ SizeOf.sizeOf e < SizeOf.sizeOf e + 1 from ⟨h, Nat.lt_succ_self _⟩), (show (outcomes_spn (SizeOf.sizeOf e + 1)).fn [⟨(.named 1), (e : Xpr)⟩, ⟨(.slice (.int .i64)), (st : List Int)⟩] = ([⟨(.int .i64), (outcomes_r (SizeOf.sizeOf e + 1) e st)⟩] : List TV) from by kernel_rfl).trans (show ([⟨(.int .i64), (outcomes_r (SizeOf.sizeOf e + 1) e st)⟩] : List TV) = outcomes_sp.fn [⟨(.named 1), (e : Xpr)⟩, ⟨(.slice (.int .i64)), (st : List Int)⟩] from by kernel_rfl), by kernel_rfl⟩)

theorem outcomes_ok : FnOK Try.prog 24 outcomes_sp := FnOK.of_fuel outcomes_okn (fun _ => rfl) (fun _ => rfl) (AllTV.get outcomes_fu)

theorem outcomes_same {e : Xpr} {st : List Int} (h : VX st e) : outcomes e st = ioutcomes e st := outcomes_eq _ e st h

def validStates_l0 (st : List Int) : Nat → Nat → Unit ⊕ Bool
 | 0, i => .inl ()
 | k + 1, i => (bif (decide (((i : Nat) : Int) < ((List.length st : Nat) : Int))) then (bif (!(inRange (List.getD st i 0) 1 7)) then (.inr false) else (validStates_l0 st k (i + 1))) else (.inl ()))

def validStates (st : List Int) : Bool := (Sum.elim (fun _ => (inRange ((List.length st : Nat) : Int) 1 6)) (fun r => r) (validStates_l0 st ((List.length st) - 0 + 1) 0))

def validStates_sp : FnSpec := mkSpec [.val (.slice (.int .i64))] [.val .bool] (fun (st : List Int) => True) (fun (st : List Int) => [⟨.bool, (validStates st)⟩])

theorem validStates_ok : FnOK Try.prog 22 validStates_sp := by
 have hC : CtxOK Try.prog (mkCtx tyL [(35, inRange_sp)]) := CtxOK.cons inRange_ok (CtxOK.nil tyOK)
 refine FnOK.of_body Try.func22 (by kernel_rfl) rfl (C := (mkCtx tyL [(35, inRange_sp)])) hC.ty (by kernel_rfl) ?_
 intro (st : List Int) hwf hpre E
 have hpre : True := hpre
 have hw_st : Wf ⟨(.slice (.int .i64)), (st : List Int)⟩ := hwf _ (List.Mem.head _)
 have hl_st : ((List.length st : Nat) : Int) ≤ 9223372036854775807 := hw_st.len
 have e0 : validStates st = validStates st := rfl
 refine AW.seq (AW.r1 hC [0] [] ⟨[(0, sD6 st)], []⟩ ?_)
 refine AW.seq (AW.seq (AW.r1 hC [0, 3] [] ⟨[(0, sD6 st), (3, sI 0)], []⟩ ?_))
 refine AW.cutQ (α := Unit) (fun x => ⟨[(0, sD6 st)], []⟩) (fun x => (True) ∧ (validStates_l0 st ((List.length st) - 0 + 1) 0) = (.inl ())) ?_ ?_
 ·
  skip
  refine AW.block (AW.loop (α := Nat) (fun x => ⟨[(0, sD6 st), (3, sI ((x : Nat) : Int))], []⟩) (fun x => (True) ∧ ∃ k, (List.length st) - x < k ∧ (validStates_l0 st ((List.length st) - 0 + 1) 0) = validStates_l0 st k x) (fun x => (List.length st) - x) 0 (by kernel_rfl) ⟨?_, _, Nat.lt_succ_self _, rfl⟩ ?_)
  ·
   show True
   first | exact trivial | (refine ⟨?_, ?_⟩ <;> first | omega | simp) | omega | simp
  ·
   intro i hR
   obtain ⟨hI0, k30, hk28, e29⟩ := hR
   replace hI0 : True := hI0
   replace hk28 : (List.length st) - i < k30 := hk28
   obtain ⟨k30q, rfl⟩ : ∃ k, k30 = k + 1 := ⟨k30 - 1, by omega⟩
   refine AW.seq (AW.seq (AW.r1 hC [0, 3, 7] [] ⟨[(0, sD6 st), (3, sI ((i : Nat) : Int)), (7, sB (decide (((i : Nat) : Int) < ((List.length st : Nat) : Int))))], []⟩ ?_))
   refine AW.cd (decide (((i : Nat) : Int) < ((List.length st : Nat) : Int))) ?_ ?_
   ·
    intro h31
    have h31q := (of_decide_eq_true h31)
    have e32 := e29.trans (Go.Am.bif_t h31)
    refine AW.kp [0, 3] [] ⟨[(0, sD6 st), (3, sI ((i : Nat) : Int))], []⟩ ?_
    refine AW.skip (AW.seq (AW.block (AW.seq (AW.r0 hC [0, 3, 15] [] ⟨[(0, sD6 st), (3, sI ((i : Nat) : Int)), (15, sB (!(inRange (List.getD st i 0) 1 7)))], []⟩ [IX ((i : Nat) : Int) ((List.length st : Nat) : Int), (True)] ?_ ?_))))
    ·
     refine ⟨?_, ?_, trivial⟩
     ·
      refine IX.of ?_
      first | omega | (dsimp only; omega) | (simp only [lens] at *; omega)
     ·
      trivial
    refine AW.cd (!(inRange (List.getD st i 0) 1 7)) ?_ ?_
    ·
     intro h33
     have h33q := (Go.Am.not_pos h33)
     have e34 := e32.trans (Go.Am.bif_t h33)
     refine AW.seq (AW.r1 hC [2] [] ⟨[(2, sB false)], []⟩ ?_)
     refine AW.ret ?_
     have e35 := e0.trans (Go.Am.elim_r e34)
     exact AW.rB false e35
    ·
     intro h36
     have h36q := (Go.Am.not_neg h36)
     have e37 := e32.trans (Go.Am.bif_f h36)
     refine AW.kp [0, 3] [] ⟨[(0, sD6 st), (3, sI ((i : Nat) : Int))], []⟩ ?_
     refine AW.skip (AW.r0 hC [0, 3] [] ⟨[(0, sD6 st), (3, sI ((i + 1 : Nat) : Int))], []⟩ [R64 ((i + 1 : Nat) : Int)] ?_ ?_)
     ·
      refine ⟨?_, trivial⟩
      ·
       refine R64.of ?_
       first | omega | (dsimp only; omega) | (simp only [lens] at *; omega)
     refine AW.back (x := i) (i + 1) (by kernel_rfl) ⟨?_, k30q, ?_, e37⟩ ?_
     ·
      show True
      first | assumption | exact trivial | (refine ⟨?_, ?_⟩ <;> first | omega | (simp only [lens] at *; omega)) | omega | (simp only [lens] at *; omega)
     ·
      show (List.length st) - (i + 1) < k30q
      first | omega | (simp only [lens]; omega)
     ·
      show (List.length st) - (i + 1) < (List.length st) - i
      first | omega | (simp only [lens]; omega)
   ·
    intro h38
    have h38q := (of_decide_eq_false h38)
    have e39 := e29.trans (Go.Am.bif_f h38)
    refine AW.kp [0] [] ⟨[(0, sD6 st)], []⟩ ?_
    refine AW.exit ?_
    refine AW.meet () (by kernel_rfl) ⟨?_, e39⟩
    show True
    first | assumption | exact trivial | omega
 ·
  intro x hR
  obtain ⟨hJ0, e40⟩ := hR
  replace hJ0 : True := hJ0
  have e41 := e0.trans (Go.Am.elim_l e40)
  refine AW.seq (AW.r0 hC [2] [] ⟨[(2, sB (inRange ((List.length st : Nat) : Int) 1 6))], []⟩ [(True)] ?_ ?_)
  ·
   refine ⟨?_, trivial⟩
   ·
    trivial
  exact AW.ret (AW.rB (inRange ((List.length st : Nat) : Int) 1 6) e41)

theorem validStates_iff {st : List Int} : validStates st = true ↔ (1 ≤ ((st.length : Nat) : Int) ∧ ((st.length : Nat) : Int) ≤ 6) ∧ VS st := by
 unfold validStates
 rw [loop_iff (validStates_l0 st) st.length (fun i => inRange (List.getD st i 0) 1 7) _ (fun k i => rfl), inRange_iff]
 exact ⟨fun h => ⟨h.1, fun j hj => inRange_iff.1 (h.2 j hj)⟩, fun h => ⟨h.1, fun j hj => inRange_iff.2 (h.2 j hj)⟩⟩

def Outcomes (e : Xpr) (st : List Int) : Int := (bif (bif (!(validStates st)) then true else (!(ValidExpr (Xpr.mk (Xpr.Kind e) (Xpr.Col e) (Xpr.V e) (Xpr.Kids e)) ((List.length st : Nat) : Int)))) then 0 else (outcomes (Xpr.mk (Xpr.Kind e) (Xpr.Col e) (Xpr.V e) (Xpr.Kids e)) st))

def Outcomes_sp : FnSpec := mkSpec [.val (.named 1), .val (.slice (.int .i64))] [.val (.int .i64)] (fun (e : Xpr) (st : List Int) => True) (fun (e : Xpr) (st : List Int) => [⟨(.int .i64), (Outcomes e st)⟩])

theorem Outcomes_ok : FnOK Try.prog 9 Outcomes_sp := by
 have hC : CtxOK Try.prog (mkCtx tyL [(22, validStates_sp), (23, ValidExpr_sp), (24, outcomes_sp)]) := CtxOK.cons validStates_ok (CtxOK.cons ValidExpr_ok (CtxOK.cons outcomes_ok (CtxOK.nil tyOK)))
 refine FnOK.of_body Try.func9 (by kernel_rfl) rfl (C := (mkCtx tyL [(22, validStates_sp), (23, ValidExpr_sp), (24, outcomes_sp)])) hC.ty (by kernel_rfl) ?_
 intro (e : Xpr) (st : List Int) hwf hpre E
 have hpre : True := hpre
 have hw_e : Wf ⟨(.named 1), (e : Xpr)⟩ := hwf _ (List.Mem.head _)
 obtain ⟨hr_e_Kind, hr_e_Col, hl_e_Kids⟩ := Xpr.wfl hw_e
 have hw_st : Wf ⟨(.slice (.int .i64)), (st : List Int)⟩ := hwf _ (List.Mem.tail _ (List.Mem.head _))
 have hl_st : ((List.length st : Nat) : Int) ≤ 9223372036854775807 := hw_st.len
 have e0 : Outcomes e st = Outcomes e st := rfl
 refine AW.seq (AW.r1 hC [1, 2] [8] ⟨[(1, sD6 st), (2, .ref 8 1 0)], [(8, .box 1 [sI (Xpr.Kind e), sI (Xpr.Col e), sB (Val.Null (Xpr.V e)), sI (Val.N (Xpr.V e)), sD9 (Xpr.Kids e)])]⟩ ?_)
 refine AW.seq (AW.seq (AW.r0 hC [1, 2, 14] [8] ⟨[(1, sD6 st), (2, .ref 8 1 0), (14, sB (bif (!(validStates st)) then true else (!(ValidExpr (Xpr.mk (Xpr.Kind e) (Xpr.Col e) (Xpr.V e) (Xpr.Kids e)) ((List.length st : Nat) : Int)))))], [(8, .box 1 [sI (Xpr.Kind e), sI (Xpr.Col e), sB (Val.Null (Xpr.V e)), sI (Val.N (Xpr.V e)), sD9 (Xpr.Kids e)])]⟩ [(True), (((!(validStates st)) = false) → (((!(validStates st)) = false))), (((!(validStates st)) = false) → (((!(validStates st)) = false))), (((!(validStates st)) = false) → (((!(validStates st)) = false))), (((!(validStates st)) = false) → (True)), (((!(validStates st)) = false) → (((!(validStates st)) = false))), (((!(validStates st)) = false) → (((!(validStates st)) = false)))] ?_ ?_))
 ·
  refine ⟨?_, ?_, ?_, ?_, ?_, ?_, ?_, trivial⟩
  ·
   trivial
  ·
   intro g1
   have g1p0 : (validStates st) = true := (Go.Am.not_neg g1)
   first | assumption | exact ⟨by assumption, by assumption⟩
  ·
   intro g2
   have g2p0 : (validStates st) = true := (Go.Am.not_neg g2)
   first | assumption | exact ⟨by assumption, by assumption⟩
  ·
   intro g3
   have g3p0 : (validStates st) = true := (Go.Am.not_neg g3)
   first | assumption | exact ⟨by assumption, by assumption⟩
  ·
   intro g4
   have g4p0 : (validStates st) = true := (Go.Am.not_neg g4)
   trivial
  ·
   intro g5
   have g5p0 : (validStates st) = true := (Go.Am.not_neg g5)
   first | assumption | exact ⟨by assumption, by assumption⟩
  ·
   intro g6
   have g6p0 : (validStates st) = true := (Go.Am.not_neg g6)
   first | assumption | exact ⟨by assumption, by assumption⟩
 refine AW.cd (bif (!(validStates st)) then true else (!(ValidExpr (Xpr.mk (Xpr.Kind e) (Xpr.Col e) (Xpr.V e) (Xpr.Kids e)) ((List.length st : Nat) : Int)))) ?_ ?_
 ·
  intro h7
  have h7q : ((validStates st) = false) ∨ ((ValidExpr (Xpr.mk (Xpr.Kind e) (Xpr.Col e) (Xpr.V e) (Xpr.Kids e)) ((List.length st : Nat) : Int)) = false) := (Or.imp (fun h => (Go.Am.not_pos h)) (fun h => (Go.Am.not_pos h)) (Go.Am.or_pos h7))
  have e8 := e0.trans (Go.Am.bif_t h7)
  refine AW.seq (AW.r1 hC [4] [] ⟨[(4, sI 0)], []⟩ ?_)
  exact AW.ret (AW.rI 0 e8)
 ·
  intro h9
  have h9q : ((validStates st) = true) ∧ ((ValidExpr (Xpr.mk (Xpr.Kind e) (Xpr.Col e) (Xpr.V e) (Xpr.Kids e)) ((List.length st : Nat) : Int)) = true) := (And.imp (fun h => (Go.Am.not_neg h)) (fun h => (Go.Am.not_neg h)) (Go.Am.or_neg h9))
  have e10 := e0.trans (Go.Am.bif_f h9)
  refine AW.kp [1, 2] [8] ⟨[(1, sD6 st), (2, .ref 8 1 0)], [(8, .box 1 [sI (Xpr.Kind e), sI (Xpr.Col e), sB (Val.Null (Xpr.V e)), sI (Val.N (Xpr.V e)), sD9 (Xpr.Kids e)])]⟩ ?_
  refine AW.skip (AW.seq (AW.r0 hC [4] [] ⟨[(4, sI (outcomes (Xpr.mk (Xpr.Kind e) (Xpr.Col e) (Xpr.V e) (Xpr.Kids e)) st))], []⟩ [(VX st (Xpr.mk (Xpr.Kind e) (Xpr.Col e) (Xpr.V e) (Xpr.Kids e)))] ?_ ?_))
  ·
   refine ⟨?_, trivial⟩
   ·
    exact ⟨(validStates_iff.1 h9q.1).2, 8, (ValidExpr_iff.1 h9q.2).2⟩
  exact AW.ret (AW.rI (outcomes (Xpr.mk (Xpr.Kind e) (Xpr.Col e) (Xpr.V e) (Xpr.Kids e)) st) e10)

def iOutcomes_l0 (st : List Int) : Nat → Nat → Unit ⊕ Int
 | 0, v14 => .inl ()
 | k + 1, v14 => (bif (decide (((v14 : Nat) : Int) < ((List.length st : Nat) : Int))) then (bif (bif (decide ((List.getD st v14 0) < 1)) then true else (decide (7 < (List.getD st v14 0)))) then (.inr 0) else (iOutcomes_l0 st k (v14 + 1))) else (.inl ()))

def iOutcomes (e : Xpr) (st : List Int) : Int := (bif (!(iValidExpr (Xpr.mk (Xpr.Kind e) (Xpr.Col e) (Xpr.V e) (Xpr.Kids e)) ((List.length st : Nat) : Int))) then 0 else (Sum.elim (fun _ => (ioutcomes (Xpr.mk (Xpr.Kind e) (Xpr.Col e) (Xpr.V e) (Xpr.Kids e)) st)) (fun r => r) (iOutcomes_l0 st ((List.length st) - 0 + 1) 0)))

def iOutcomes_sp : FnSpec := mkSpec [.val (.named 1), .val (.slice (.int .i64))] [.val (.int .i64)] (fun (e : Xpr) (st : List Int) => True) (fun (e : Xpr) (st : List Int) => [⟨(.int .i64), (iOutcomes e st)⟩])

theorem iOutcomes_ok : FnOK Try.prog 8 iOutcomes_sp := by
 have hC : CtxOK Try.prog (mkCtx tyL [(20, iValidExpr_sp), (21, ioutcomes_sp)]) := CtxOK.cons iValidExpr_ok (CtxOK.cons ioutcomes_ok (CtxOK.nil tyOK))
 refine FnOK.of_body Try.func8 (by kernel_rfl) rfl (C := (mkCtx tyL [(20, iValidExpr_sp), (21, ioutcomes_sp)])) hC.ty (by kernel_rfl) ?_
 intro (e : Xpr) (st : List Int) hwf hpre E
 have hpre : True := hpre
 have hw_e : Wf ⟨(.named 1), (e : Xpr)⟩ := hwf _ (List.Mem.head _)
 obtain ⟨hr_e_Kind, hr_e_Col, hl_e_Kids⟩ := Xpr.wfl hw_e
 have hw_st : Wf ⟨(.slice (.int .i64)), (st : List Int)⟩ := hwf _ (List.Mem.tail _ (List.Mem.head _))
 have hl_st : ((List.length st : Nat) : Int) ≤ 9223372036854775807 := hw_st.len
 have e0 : iOutcomes e st = iOutcomes e st := rfl
 refine AW.seq (AW.r1 hC [1, 2] [8] ⟨[(1, sD6 st), (2, .ref 8 1 0)], [(8, .box 1 [sI (Xpr.Kind e), sI (Xpr.Col e), sB (Val.Null (Xpr.V e)), sI (Val.N (Xpr.V e)), sD9 (Xpr.Kids e)])]⟩ ?_)
 refine AW.seq (AW.seq (AW.r0 hC [1, 2, 11] [8] ⟨[(1, sD6 st), (2, .ref 8 1 0), (11, sB (!(iValidExpr (Xpr.mk (Xpr.Kind e) (Xpr.Col e) (Xpr.V e) (Xpr.Kids e)) ((List.length st : Nat) : Int))))], [(8, .box 1 [sI (Xpr.Kind e), sI (Xpr.Col e), sB (Val.Null (Xpr.V e)), sI (Val.N (Xpr.V e)), sD9 (Xpr.Kids e)])]⟩ [(True)] ?_ ?_))
 ·
  refine ⟨?_, trivial⟩
  ·
   trivial
 refine AW.cd (!(iValidExpr (Xpr.mk (Xpr.Kind e) (Xpr.Col e) (Xpr.V e) (Xpr.Kids e)) ((List.length st : Nat) : Int))) ?_ ?_
 ·
  intro h1
  have h1q := (Go.Am.not_pos h1)
  have e2 := e0.trans (Go.Am.bif_t h1)
  refine AW.seq (AW.r1 hC [4] [] ⟨[(4, sI 0)], []⟩ ?_)
  exact AW.ret (AW.rI 0 e2)
 ·
  intro h3
  have h3q := (Go.Am.not_neg h3)
  have e4 := e0.trans (Go.Am.bif_f h3)
  refine AW.kp [1, 2] [8] ⟨[(1, sD6 st), (2, .ref 8 1 0)], [(8, .box 1 [sI (Xpr.Kind e), sI (Xpr.Col e), sB (Val.Null (Xpr.V e)), sI (Val.N (Xpr.V e)), sD9 (Xpr.Kids e)])]⟩ ?_
  refine AW.skip (AW.seq (AW.seq (AW.r1 hC [1, 2, 12, 13, 14] [8] ⟨[(1, sD6 st), (2, .ref 8 1 0), (12, sD6 st), (13, sI ((List.length st : Nat) : Int)), (14, sI 0)], [(8, .box 1 [sI (Xpr.Kind e), sI (Xpr.Col e), sB (Val.Null (Xpr.V e)), sI (Val.N (Xpr.V e)), sD9 (Xpr.Kids e)])]⟩ ?_)))
  refine AW.cutQ (α := Unit) (fun x => ⟨[(1, sD6 st), (2, .ref 8 1 0)], [(8, .box 1 [sI (Xpr.Kind e), sI (Xpr.Col e), sB (Val.Null (Xpr.V e)), sI (Val.N (Xpr.V e)), sD9 (Xpr.Kids e)])]⟩) (fun x => (∀ j, j < st.length → 1 ≤ List.getD st j 0 ∧ List.getD st j 0 ≤ 7) ∧ (iOutcomes_l0 st ((List.length st) - 0 + 1) 0) = (.inl ())) ?_ ?_
  ·
   skip
   refine AW.block (AW.loop (α := Nat) (fun x => ⟨[(1, sD6 st), (2, .ref 8 1 0), (12, sD6 st), (13, sI ((List.length st : Nat) : Int)), (14, sI ((x : Nat) : Int))], [(8, .box 1 [sI (Xpr.Kind e), sI (Xpr.Col e), sB (Val.Null (Xpr.V e)), sI (Val.N (Xpr.V e)), sD9 (Xpr.Kids e)])]⟩) (fun x => (∀ j, j < x → 1 ≤ List.getD st j 0 ∧ List.getD st j 0 ≤ 7) ∧ ∃ k, (List.length st) - x < k ∧ (iOutcomes_l0 st ((List.length st) - 0 + 1) 0) = iOutcomes_l0 st k x) (fun x => (List.length st) - x) 0 (by kernel_rfl) ⟨?_, _, Nat.lt_succ_self _, rfl⟩ ?_)
   ·
    show ∀ j, j < 0 → 1 ≤ List.getD st j 0 ∧ List.getD st j 0 ≤ 7
    exact fun j hj => absurd hj (Nat.not_lt_zero _)
   ·
    intro v14 hR
    obtain ⟨hI0, k34, hk32, e33⟩ := hR
    replace hI0 : ∀ j, j < v14 → 1 ≤ List.getD st j 0 ∧ List.getD st j 0 ≤ 7 := hI0
    replace hk32 : (List.length st) - v14 < k34 := hk32
    obtain ⟨k34q, rfl⟩ : ∃ k, k34 = k + 1 := ⟨k34 - 1, by omega⟩
    refine AW.seq (AW.r1 hC [1, 2, 12, 13, 14, 15] [8] ⟨[(1, sD6 st), (2, .ref 8 1 0), (12, sD6 st), (13, sI ((List.length st : Nat) : Int)), (14, sI ((v14 : Nat) : Int)), (15, sB (decide (((v14 : Nat) : Int) < ((List.length st : Nat) : Int))))], [(8, .box 1 [sI (Xpr.Kind e), sI (Xpr.Col e), sB (Val.Null (Xpr.V e)), sI (Val.N (Xpr.V e)), sD9 (Xpr.Kids e)])]⟩ ?_)
    refine AW.seq (AW.cd (decide (((v14 : Nat) : Int) < ((List.length st : Nat) : Int))) ?_ ?_)
    ·
     intro h35
     have h35q := (of_decide_eq_true h35)
     have e36 := e33.trans (Go.Am.bif_t h35)
     refine AW.kp [1, 2, 12, 13, 14] [8] ⟨[(1, sD6 st), (2, .ref 8 1 0), (12, sD6 st), (13, sI ((List.length st : Nat) : Int)), (14, sI ((v14 : Nat) : Int))], [(8, .box 1 [sI (Xpr.Kind e), sI (Xpr.Col e), sB (Val.Null (Xpr.V e)), sI (Val.N (Xpr.V e)), sD9 (Xpr.Kids e)])]⟩ ?_
     refine AW.skip (AW.seq (AW.block (AW.seq (AW.r0 hC [1, 2, 6, 12, 13, 14] [8] ⟨[(1, sD6 st), (2, .ref 8 1 0), (6, sI (List.getD st v14 0)), (12, sD6 st), (13, sI ((List.length st : Nat) : Int)), (14, sI ((v14 : Nat) : Int))], [(8, .box 1 [sI (Xpr.Kind e), sI (Xpr.Col e), sB (Val.Null (Xpr.V e)), sI (Val.N (Xpr.V e)), sD9 (Xpr.Kids e)])]⟩ [IX ((v14 : Nat) : Int) ((List.length st : Nat) : Int)] ?_ ?_))))
     ·
      refine ⟨?_, trivial⟩
      ·
       refine IX.of ?_
       first | omega | (dsimp only; omega) | (simp only [lens] at *; omega)
     refine AW.seq (AW.r0 hC [1, 2, 12, 13, 14, 23] [8] ⟨[(1, sD6 st), (2, .ref 8 1 0), (12, sD6 st), (13, sI ((List.length st : Nat) : Int)), (14, sI ((v14 : Nat) : Int)), (23, sB (bif (decide ((List.getD st v14 0) < 1)) then true else (decide (7 < (List.getD st v14 0)))))], [(8, .box 1 [sI (Xpr.Kind e), sI (Xpr.Col e), sB (Val.Null (Xpr.V e)), sI (Val.N (Xpr.V e)), sD9 (Xpr.Kids e)])]⟩ [(((decide ((List.getD st v14 0) < 1)) = false) → (((decide ((List.getD st v14 0) < 1)) = false))), (((decide ((List.getD st v14 0) < 1)) = false) → (((decide ((List.getD st v14 0) < 1)) = false)))] ?_ ?_)
     ·
      refine ⟨?_, ?_, trivial⟩
      ·
       intro g37
       have g37p0 : ¬ ((List.getD st v14 0) < 1) := (of_decide_eq_false g37)
       first | assumption | exact ⟨by assumption, by assumption⟩
      ·
       intro g38
       have g38p0 : ¬ ((List.getD st v14 0) < 1) := (of_decide_eq_false g38)
       first | assumption | exact ⟨by assumption, by assumption⟩
     refine AW.cd (bif (decide ((List.getD st v14 0) < 1)) then true else (decide (7 < (List.getD st v14 0)))) ?_ ?_
     ·
      intro h39
      have h39q : ((List.getD st v14 0) < 1) ∨ (7 < (List.getD st v14 0)) := (Or.imp (fun h => (of_decide_eq_true h)) (fun h => (of_decide_eq_true h)) (Go.Am.or_pos h39))
      have e40 := e36.trans (Go.Am.bif_t h39)
      refine AW.seq (AW.r1 hC [4] [] ⟨[(4, sI 0)], []⟩ ?_)
      refine AW.ret ?_
      have e41 := e4.trans (Go.Am.elim_r e40)
      exact AW.rI 0 e41
     ·
      intro h42
      have h42q : (¬ ((List.getD st v14 0) < 1)) ∧ (¬ (7 < (List.getD st v14 0))) := (And.imp (fun h => (of_decide_eq_false h)) (fun h => (of_decide_eq_false h)) (Go.Am.or_neg h42))
      have e43 := e36.trans (Go.Am.bif_f h42)
      refine AW.kp [1, 2, 12, 13, 14] [8] ⟨[(1, sD6 st), (2, .ref 8 1 0), (12, sD6 st), (13, sI ((List.length st : Nat) : Int)), (14, sI ((v14 : Nat) : Int))], [(8, .box 1 [sI (Xpr.Kind e), sI (Xpr.Col e), sB (Val.Null (Xpr.V e)), sI (Val.N (Xpr.V e)), sD9 (Xpr.Kids e)])]⟩ ?_
      refine AW.skip (AW.r0 hC [1, 2, 12, 13, 14] [8] ⟨[(1, sD6 st), (2, .ref 8 1 0), (12, sD6 st), (13, sI ((List.length st : Nat) : Int)), (14, sI ((v14 + 1 : Nat) : Int))], [(8, .box 1 [sI (Xpr.Kind e), sI (Xpr.Col e), sB (Val.Null (Xpr.V e)), sI (Val.N (Xpr.V e)), sD9 (Xpr.Kids e)])]⟩ [R64 ((v14 + 1 : Nat) : Int)] ?_ ?_)
      ·
       refine ⟨?_, trivial⟩
       ·
        refine R64.of ?_
        first | omega | (dsimp only; omega) | (simp only [lens] at *; omega)
      refine AW.back (x := v14) (v14 + 1) (by kernel_rfl) ⟨?_, k34q, ?_, e43⟩ ?_
      ·
       show ∀ j, j < (v14 + 1) → 1 ≤ List.getD st j 0 ∧ List.getD st j 0 ≤ 7
       intro j hj
       by_cases hj2 : j < v14
       ·
        exact hI0 j hj2
       ·
        have : j = v14 := by omega
        subst this
        omega
      ·
       show (List.length st) - (v14 + 1) < k34q
       first | omega | (simp only [lens]; omega)
      ·
       show (List.length st) - (v14 + 1) < (List.length st) - v14
       first | omega | (simp only [lens]; omega)
    ·
     intro h44
     have h44q := (of_decide_eq_false h44)
     have e45 := e33.trans (Go.Am.bif_f h44)
     refine AW.kp [1, 2] [8] ⟨[(1, sD6 st), (2, .ref 8 1 0)], [(8, .box 1 [sI (Xpr.Kind e), sI (Xpr.Col e), sB (Val.Null (Xpr.V e)), sI (Val.N (Xpr.V e)), sD9 (Xpr.Kids e)])]⟩ ?_
     refine AW.exit ?_
     refine AW.meet () (by kernel_rfl) ⟨?_, e45⟩
     show ∀ j, j < st.length → 1 ≤ List.getD st j 0 ∧ List.getD st j 0 ≤ 7
     intro j hj
     exact hI0 j (by omega)
  ·
   intro x hR
   obtain ⟨hJ0, e46⟩ := hR
   replace hJ0 : ∀ j, j < st.length → 1 ≤ List.getD st j 0 ∧ List.getD st j 0 ≤ 7 := hJ0
   have e47 := e4.trans (Go.Am.elim_l e46)
   refine AW.seq (AW.r0 hC [4] [] ⟨[(4, sI (ioutcomes (Xpr.mk (Xpr.Kind e) (Xpr.Col e) (Xpr.V e) (Xpr.Kids e)) st))], []⟩ [(VX st (Xpr.mk (Xpr.Kind e) (Xpr.Col e) (Xpr.V e) (Xpr.Kids e)))] ?_ ?_)
   ·
    refine ⟨?_, trivial⟩
    ·
     exact ⟨hJ0, 8, (iValidExpr_iff.1 h3q).2⟩
   exact AW.ret (AW.rI (ioutcomes (Xpr.mk (Xpr.Kind e) (Xpr.Col e) (Xpr.V e) (Xpr.Kids e)) st) e47)

end
end Go.Proofs.Ytophfihhdelbiaa
