/-
  A part of the proof of this claim (AtW): what functions of the program compute, and plain facts of that. No conditions.
-/
import Derived.Test.YtdkopkplfdobnaaAtQ
set_option linter.all false
namespace Go.Proofs.Ytdkopkplfdobnaa
open Go Go.Am
noncomputable section

theorem equalPermille_eq (e : Xpr) (s : Sta) : equalPermille e s = bif (bif (bif ((Xpr.Kind (List.getD (Xpr.Kids e) 0 Xpr.zero)) == 1) then ((Xpr.Kind (List.getD (Xpr.Kids e) 1 Xpr.zero)) == 2) else false) then (!(Val.Null (Xpr.V (List.getD (Xpr.Kids e) 1 Xpr.zero)))) else false) then equality s (Xpr.Col (List.getD (Xpr.Kids e) 0 Xpr.zero)) else 100 := by
 unfold equalPermille equality
 generalize (Xpr.Kind (List.getD (Xpr.Kids e) 0 Xpr.zero)) = k0
 generalize (Xpr.Kind (List.getD (Xpr.Kids e) 1 Xpr.zero)) = k1
 rw [show (k0 != 1) = !(k0 == 1) from rfl, show (k1 != 2) = !(k1 == 2) from rfl]
 cases (k0 == 1) <;> cases (k1 == 2) <;> cases (Val.Null (Xpr.V (List.getD (Xpr.Kids e) 1 Xpr.zero))) <;> rfl

theorem constantPermille_b (e : Xpr) : 0 ≤ constantPermille e ∧ constantPermille e ≤ 1000 := by
 unfold constantPermille
 cases (truthOf (Xpr.V e) == 2) <;> simp

theorem equalPermille_b {e : Xpr} {s : Sta} (h : VSt s) (hx : VXn ((s.Distinct.length : Nat) : Int) e) (hk : 0 < e.Kids.length) : 0 ≤ equalPermille e s ∧ equalPermille e s ≤ 1000 := by
 rw [equalPermille_eq]
 cases hc : (bif (bif ((Xpr.Kind (List.getD (Xpr.Kids e) 0 Xpr.zero)) == 1) then ((Xpr.Kind (List.getD (Xpr.Kids e) 1 Xpr.zero)) == 2) else false) then (!(Val.Null (Xpr.V (List.getD (Xpr.Kids e) 1 Xpr.zero)))) else false) with
 | true =>
  have k0 := beq_pos (and_pos (and_pos hc).1).1
  exact equality_b h ((hx.kid hk).node.col k0)
 | false => simp

def selectivity_j0 (e : Xpr) : Bool :=
 (bif ((Xpr.Kind e) == 8) then ((Xpr.Kind e) == 8) else ((Xpr.Kind e) == 9))

def selectivity_r : Nat → Xpr → Sta → Int
 | 0, e, s => 0
 | fuel + 1, e, s => (bif ((Xpr.Kind e) == 2) then (constantPermille e) else (bif ((Xpr.Kind e) == 10) then (1000 - ((selectivity_r fuel) (List.getD (Xpr.Kids e) 0 Xpr.zero) s)) else (Go.Am.andThen (selectivity_j0 e) (fun z => (fun (v25 : Bool) => (bif v25 then (bif ((Xpr.Kind e) == 8) then ((((selectivity_r fuel) (List.getD (Xpr.Kids e) 0 Xpr.zero) s) * ((selectivity_r fuel) (List.getD (Xpr.Kids e) 1 Xpr.zero) s)) / 1000) else ((((selectivity_r fuel) (List.getD (Xpr.Kids e) 0 Xpr.zero) s) + ((selectivity_r fuel) (List.getD (Xpr.Kids e) 1 Xpr.zero) s)) - ((((selectivity_r fuel) (List.getD (Xpr.Kids e) 0 Xpr.zero) s) * ((selectivity_r fuel) (List.getD (Xpr.Kids e) 1 Xpr.zero) s)) / 1000))) else (bif ((Xpr.Kind e) == 6) then (equalPermille e s) else (bif ((Xpr.Kind e) == 7) then 333 else (bif ((Xpr.Kind e) == 11) then (bif (bif ((Xpr.Kind (List.getD (Xpr.Kids e) 0 Xpr.zero)) != 1) then true else ((Sta.Rows s) == 0)) then 0 else ((1000 * (List.getD (Sta.Nulls s) (Int.toNat (Xpr.Col (List.getD (Xpr.Kids e) 0 Xpr.zero))) 0)) / (Sta.Rows s))) else 500))))) z))))

def selectivity (e : Xpr) (s : Sta) : Int := selectivity_r (SizeOf.sizeOf e + 1) e s

def selectivity_spn (fuel : Nat) : FnSpec := mkSpec [.rd (.named 1), .rd (.named 3)] [.val (.int .i64)] (fun (e : Xpr) (s : Sta) => (VSt s ∧ VXn ((List.length (Sta.Distinct s) : Nat) : Int) e) ∧ SizeOf.sizeOf e < fuel) (fun (e : Xpr) (s : Sta) => [⟨(.int .i64), (selectivity_r fuel e s)⟩])

def selectivity_sp : FnSpec := mkSpec [.rd (.named 1), .rd (.named 3)] [.val (.int .i64)] (fun (e : Xpr) (s : Sta) => VSt s ∧ VXn ((List.length (Sta.Distinct s) : Nat) : Int) e) (fun (e : Xpr) (s : Sta) => [⟨(.int .i64), (selectivity e s)⟩])

theorem selectivity_b {s : Sta} (hs : VSt s) : ∀ (f : Nat) (e : Xpr), VXn ((List.length (Sta.Distinct s) : Nat) : Int) e → 0 ≤ selectivity_r f e s ∧ selectivity_r f e s ≤ 1000 := by
 intro f
 induction f with
 | zero => intro e h; exact ⟨by show (0 : Int) ≤ 0; decide, by show (0 : Int) ≤ 1000; decide⟩
 | succ f ih =>
  intro e h
  have hn := h.node
  have hnk := hn.kids
  have hkc := kids_cases (Xpr.Kind e)
  have hr := hs.rows
  have ne : ∀ j : Int, e.Kind ≠ j → (e.Kind == j) = false := fun j h => beq_false_of_ne h
  have te : ∀ j : Int, e.Kind = j → (e.Kind == j) = true := fun j h => beq_iff_eq.2 h
  unfold selectivity_r selectivity_j0
  by_cases h2 : e.Kind = 2
  ·
   rw [te 2 h2, cond_true]
   exact constantPermille_b e
  ·
   rw [ne 2 h2, cond_false]
   by_cases h10 : e.Kind = 10
   ·
    rw [te 10 h10, cond_true]
    have a := ih _ (h.kid (i := 0) (by omega))
    omega
   ·
    rw [ne 10 h10, cond_false]
    simp only [Go.Am.andThen]
    by_cases h8 : e.Kind = 8
    ·
     have c := selAnd (ih _ (h.kid (i := 0) (by omega))) (ih _ (h.kid (i := 1) (by omega)))
     rw [te 8 h8]
     simp only [cond_true]
     exact c.2.1
    ·
     by_cases h9 : e.Kind = 9
     ·
      have c := selAnd (ih _ (h.kid (i := 0) (by omega))) (ih _ (h.kid (i := 1) (by omega)))
      rw [ne 8 h8, te 9 h9]
      simp only [cond_true, cond_false]
      exact c.2.2
     ·
      rw [ne 8 h8, ne 9 h9]
      simp only [cond_false]
      by_cases h6 : e.Kind = 6
      ·
       rw [te 6 h6, cond_true]
       exact equalPermille_b hs h (by omega)
      ·
       rw [ne 6 h6, cond_false]
       by_cases h7 : e.Kind = 7
       ·
        rw [te 7 h7]; simp
       ·
        rw [ne 7 h7, cond_false]
        by_cases h11 : e.Kind = 11
        ·
         rw [te 11 h11, cond_true]
         cases hb : (bif ((Xpr.Kind (List.getD (Xpr.Kids e) 0 Xpr.zero)) != 1) then true else ((Sta.Rows s) == 0)) with
         | true => simp
         | false =>
          have hb := or_neg hb
          have b1 := bne_neg hb.1
          have b2 := beq_neg hb.2
          have hc := (h.kid (i := 0) (by omega)).node.col b1
          have hn2 := hs.nulls (Int.toNat (Xpr.Col (List.getD (Xpr.Kids e) 0 Xpr.zero))) (by omega)
          rw [cond_false]
          exact ⟨Int.ediv_nonneg (by omega) (by omega), Int.ediv_le_of_le_mul (by omega) (by omega)⟩
        ·
         rw [ne 11 h11]; simp

theorem selectivity_okn (fuel : Nat) : FnOK Try.prog 16 (selectivity_spn fuel) := by
 induction fuel with
 | zero => exact FnOK.never Try.func16 (by kernel_rfl) rfl (fun _ _ h => absurd h.2 (Nat.not_lt_zero _))
 | succ fuel ih => ?_
 have hC : CtxOK Try.prog (mkCtx tyL [(16, (selectivity_spn fuel)), (28, constantPermille_sp), (29, equalPermille_sp)]) := CtxOK.cons ih (CtxOK.cons constantPermille_ok (CtxOK.cons equalPermille_ok (CtxOK.nil tyOK)))
 have hM : Try.prog.follows .mixedOrders = true := Try.checked.mixed
 refine FnOK.of_body Try.func16 (by kernel_rfl) rfl (C := (mkCtx tyL [(16, (selectivity_spn fuel)), (28, constantPermille_sp), (29, equalPermille_sp)])) hC.ty (by kernel_rfl) ?_
 intro (e : Xpr) (s : Sta) hwf hpre E
 have hpre : (VSt s ∧ VXn ((List.length (Sta.Distinct s) : Nat) : Int) e) ∧ SizeOf.sizeOf e < fuel + 1 := hpre
 have hw_e : Wf ⟨(.named 1), (e : Xpr)⟩ := hwf _ (List.Mem.head _)
 obtain ⟨hr_e_Kind, hr_e_Col, hl_e_Kids⟩ := Xpr.wfl hw_e
 have hw_s : Wf ⟨(.named 3), (s : Sta)⟩ := hwf _ (List.Mem.tail _ (List.Mem.head _))
 obtain ⟨hr_s_Rows, hl_s_Distinct, hl_s_Nulls⟩ := Sta.wfl hw_s
 have hn := hpre.1.2.node
 have hnk := hn.kids
 have hkc := kids_cases (Xpr.Kind e)
 have hcol := hn.col
 have hlen := hpre.1.1.len
 have hr := hpre.1.1.rows
 have e0 : selectivity_r (fuel + 1) e s = selectivity_r (fuel + 1) e s := rfl
 refine AW.seq (AW.r1 hC [0, 1] [] ⟨[(0, sR4 e), (1, sR6 s)], []⟩ ?_)
 refine AW.seq (AW.seq (AW.r1 hC [0, 1, 10] [] ⟨[(0, sR4 e), (1, sR6 s), (10, sI (Xpr.Kind e))], []⟩ ?_))
 refine AW.block (AW.seq (AW.r1 hC [0, 1, 10, 11] [] ⟨[(0, sR4 e), (1, sR6 s), (10, sI (Xpr.Kind e)), (11, sB ((Xpr.Kind e) == 2))], []⟩ ?_))
 refine AW.cd ((Xpr.Kind e) == 2) ?_ ?_
 ·
  intro h3250
  have h3250q := (Go.Am.beq_pos h3250)
  have e3251 := e0.trans (Go.Am.bif_t h3250)
  refine AW.seq (AW.r0 hC [4] [] ⟨[(4, sI (constantPermille e))], []⟩ [(True)] ?_ ?_)
  ·
   refine ⟨?_, trivial⟩
   ·
    trivial
  exact AW.ret (AW.rI (constantPermille e) e3251)
 ·
  intro h3252
  have h3252q := (Go.Am.beq_neg h3252)
  have e3253 := e0.trans (Go.Am.bif_f h3252)
  refine AW.seq (AW.r1 hC [0, 1, 10, 15] [] ⟨[(0, sR4 e), (1, sR6 s), (10, sI (Xpr.Kind e)), (15, sB ((Xpr.Kind e) == 10))], []⟩ ?_)
  refine AW.cd ((Xpr.Kind e) == 10) ?_ ?_
  ·
   intro h3737
   have h3737q := (Go.Am.beq_pos h3737)
   have e3738 := e3253.trans (Go.Am.bif_t h3737)
   refine AW.seq (AW.r0 hC [4] [] ⟨[(4, sI (1000 - ((selectivity_r fuel) (List.getD (Xpr.Kids e) 0 Xpr.zero) s)))], []⟩ [IX (0 : Int) ((List.length (Xpr.Kids e) : Nat) : Int), ((VSt s ∧ VXn ((List.length (Sta.Distinct s) : Nat) : Int) (List.getD (Xpr.Kids e) 0 Xpr.zero)) ∧ SizeOf.sizeOf (List.getD (Xpr.Kids e) 0 Xpr.zero) < fuel), R64 (1000 - ((selectivity_r fuel) (List.getD (Xpr.Kids e) 0 Xpr.zero) s))] ?_ ?_)
   ·
    refine ⟨?_, ?_, ?_, trivial⟩
    ·
     refine IX.of ?_
     omega
    ·
     exact ⟨⟨hpre.1.1, hpre.1.2.kid (by omega)⟩, Nat.lt_of_lt_of_le (kid_lt (by omega)) (Nat.le_of_lt_succ hpre.2)⟩
    ·
     refine R64.of ?_
     have a := selectivity_b hpre.1.1 fuel _ (hpre.1.2.kid (i := 0) (by omega)); first | omega | (have b := selectivity_b hpre.1.1 fuel _ (hpre.1.2.kid (i := 1) (by omega)); have c := selAnd a b; omega)
   exact AW.ret (AW.rI (1000 - ((selectivity_r fuel) (List.getD (Xpr.Kids e) 0 Xpr.zero) s)) e3738)
  ·
   intro h3739
   have h3739q := (Go.Am.beq_neg h3739)
   have e3740 := e3253.trans (Go.Am.bif_f h3739)
   refine AW.seq (AW.seq (AW.r1 hC [0, 1, 10, 25] [] ⟨[(0, sR4 e), (1, sR6 s), (10, sI (Xpr.Kind e)), (25, sB ((Xpr.Kind e) == 8))], []⟩ ?_))
   refine AW.cutQ (α := Bool) (fun x => ⟨[(0, sR4 e), (1, sR6 s), (10, sI (Xpr.Kind e)), (25, sB x)], []⟩) (fun x => (x = true → (Xpr.Kind e = 8 ∨ Xpr.Kind e = 9)) ∧ (selectivity_j0 e) = x) ?_ ?_
   ·
    skip
    have e3749 : (selectivity_j0 e) = (selectivity_j0 e) := rfl
    refine AW.cd ((Xpr.Kind e) == 8) ?_ ?_
    ·
     intro h3750
     have h3750q := (Go.Am.beq_pos h3750)
     have e3751 := e3749.trans (Go.Am.bif_t h3750)
     refine AW.skip ?_
     refine AW.meet ((Xpr.Kind e) == 8) (by kernel_rfl) ⟨?_, e3751⟩
     show ((Xpr.Kind e) == 8) = true → (Xpr.Kind e = 8 ∨ Xpr.Kind e = 9)
     omega
    ·
     intro h3752
     have h3752q := (Go.Am.beq_neg h3752)
     have e3753 := e3749.trans (Go.Am.bif_f h3752)
     refine AW.r1 hC [0, 1, 10, 25] [] ⟨[(0, sR4 e), (1, sR6 s), (10, sI (Xpr.Kind e)), (25, sB ((Xpr.Kind e) == 9))], []⟩ ?_
     refine AW.meet ((Xpr.Kind e) == 9) (by kernel_rfl) ⟨?_, e3753⟩
     show ((Xpr.Kind e) == 9) = true → (Xpr.Kind e = 8 ∨ Xpr.Kind e = 9)
     intro hv; first | omega | (have := beq_pos hv; omega)
   ·
    intro v25 hR
    obtain ⟨hM0, e3754⟩ := hR
    replace hM0 : v25 = true → (Xpr.Kind e = 8 ∨ Xpr.Kind e = 9) := hM0
    have e3755 := e3740.trans (Go.Am.then_eq e3754)
    refine AW.cd v25 ?_ ?_
    ·
     intro h3971
     have h3971q : v25 = true := h3971
     have e3972 := e3755.trans (Go.Am.bif_t h3971)
     refine AW.seq (AW.r0 hC [0, 1, 5] [] ⟨[(0, sR4 e), (1, sR6 s), (5, sI ((selectivity_r fuel) (List.getD (Xpr.Kids e) 0 Xpr.zero) s))], []⟩ [IX (0 : Int) ((List.length (Xpr.Kids e) : Nat) : Int), ((VSt s ∧ VXn ((List.length (Sta.Distinct s) : Nat) : Int) (List.getD (Xpr.Kids e) 0 Xpr.zero)) ∧ SizeOf.sizeOf (List.getD (Xpr.Kids e) 0 Xpr.zero) < fuel)] ?_ ?_)
     ·
      refine ⟨?_, ?_, trivial⟩
      ·
       refine IX.of ?_
       have hm := hM0 (by assumption); omega
      ·
       have hm := hM0 (by assumption); exact ⟨⟨hpre.1.1, hpre.1.2.kid (by omega)⟩, Nat.lt_of_lt_of_le (kid_lt (by omega)) (Nat.le_of_lt_succ hpre.2)⟩
     refine AW.seq (AW.r0 hC [0, 5, 6] [] ⟨[(0, sR4 e), (5, sI ((selectivity_r fuel) (List.getD (Xpr.Kids e) 0 Xpr.zero) s)), (6, sI ((selectivity_r fuel) (List.getD (Xpr.Kids e) 1 Xpr.zero) s))], []⟩ [IX (1 : Int) ((List.length (Xpr.Kids e) : Nat) : Int), ((VSt s ∧ VXn ((List.length (Sta.Distinct s) : Nat) : Int) (List.getD (Xpr.Kids e) 1 Xpr.zero)) ∧ SizeOf.sizeOf (List.getD (Xpr.Kids e) 1 Xpr.zero) < fuel)] ?_ ?_)
     ·
      refine ⟨?_, ?_, trivial⟩
      ·
       refine IX.of ?_
       have hm := hM0 (by assumption); omega
      ·
       have hm := hM0 (by assumption); exact ⟨⟨hpre.1.1, hpre.1.2.kid (by omega)⟩, Nat.lt_of_lt_of_le (kid_lt (by omega)) (Nat.le_of_lt_succ hpre.2)⟩
     refine AW.seq (AW.seq (AW.r1 hC [5, 6, 46] [] ⟨[(5, sI ((selectivity_r fuel) (List.getD (Xpr.Kids e) 0 Xpr.zero) s)), (6, sI ((selectivity_r fuel) (List.getD (Xpr.Kids e) 1 Xpr.zero) s)), (46, sB ((Xpr.Kind e) == 8))], []⟩ ?_))
     refine AW.cd ((Xpr.Kind e) == 8) ?_ ?_
     ·
      intro h3978
      have h3978q := (Go.Am.beq_pos h3978)
      have e3979 := e3972.trans (Go.Am.bif_t h3978)
      refine AW.seq (AW.r0 hC [4] [] ⟨[(4, sI ((((selectivity_r fuel) (List.getD (Xpr.Kids e) 0 Xpr.zero) s) * ((selectivity_r fuel) (List.getD (Xpr.Kids e) 1 Xpr.zero) s)) / 1000))], []⟩ [R64 (((selectivity_r fuel) (List.getD (Xpr.Kids e) 0 Xpr.zero) s) * ((selectivity_r fuel) (List.getD (Xpr.Kids e) 1 Xpr.zero) s)), (0 ≤ (((selectivity_r fuel) (List.getD (Xpr.Kids e) 0 Xpr.zero) s) * ((selectivity_r fuel) (List.getD (Xpr.Kids e) 1 Xpr.zero) s)) ∧ 0 < (1000 : Int))] ?_ ?_)
      ·
       refine ⟨?_, ?_, trivial⟩
       ·
        refine R64.of ?_
        have hm := hM0 (by assumption); have a := selectivity_b hpre.1.1 fuel _ (hpre.1.2.kid (i := 0) (by omega)); have b := selectivity_b hpre.1.1 fuel _ (hpre.1.2.kid (i := 1) (by omega)); have c := selAnd a b; omega
       ·
        have hm := hM0 (by assumption); have a := selectivity_b hpre.1.1 fuel _ (hpre.1.2.kid (i := 0) (by omega)); have b := selectivity_b hpre.1.1 fuel _ (hpre.1.2.kid (i := 1) (by omega)); have c := selAnd a b; omega
      exact AW.ret (AW.rI ((((selectivity_r fuel) (List.getD (Xpr.Kids e) 0 Xpr.zero) s) * ((selectivity_r fuel) (List.getD (Xpr.Kids e) 1 Xpr.zero) s)) / 1000) e3979)
     ·
      intro h3980
      have h3980q := (Go.Am.beq_neg h3980)
      have e3981 := e3972.trans (Go.Am.bif_f h3980)
      refine AW.kp [5, 6] [] ⟨[(5, sI ((selectivity_r fuel) (List.getD (Xpr.Kids e) 0 Xpr.zero) s)), (6, sI ((selectivity_r fuel) (List.getD (Xpr.Kids e) 1 Xpr.zero) s))], []⟩ ?_
      refine AW.skip (AW.seq (AW.r0 hC [4] [] ⟨[(4, sI ((((selectivity_r fuel) (List.getD (Xpr.Kids e) 0 Xpr.zero) s) + ((selectivity_r fuel) (List.getD (Xpr.Kids e) 1 Xpr.zero) s)) - ((((selectivity_r fuel) (List.getD (Xpr.Kids e) 0 Xpr.zero) s) * ((selectivity_r fuel) (List.getD (Xpr.Kids e) 1 Xpr.zero) s)) / 1000)))], []⟩ [R64 (((selectivity_r fuel) (List.getD (Xpr.Kids e) 0 Xpr.zero) s) + ((selectivity_r fuel) (List.getD (Xpr.Kids e) 1 Xpr.zero) s)), R64 (((selectivity_r fuel) (List.getD (Xpr.Kids e) 0 Xpr.zero) s) * ((selectivity_r fuel) (List.getD (Xpr.Kids e) 1 Xpr.zero) s)), (0 ≤ (((selectivity_r fuel) (List.getD (Xpr.Kids e) 0 Xpr.zero) s) * ((selectivity_r fuel) (List.getD (Xpr.Kids e) 1 Xpr.zero) s)) ∧ 0 < (1000 : Int)), R64 ((((selectivity_r fuel) (List.getD (Xpr.Kids e) 0 Xpr.zero) s) + ((selectivity_r fuel) (List.getD (Xpr.Kids e) 1 Xpr.zero) s)) - ((((selectivity_r fuel) (List.getD (Xpr.Kids e) 0 Xpr.zero) s) * ((selectivity_r fuel) (List.getD (Xpr.Kids e) 1 Xpr.zero) s)) / 1000))] ?_ ?_))
      ·
       refine ⟨?_, ?_, ?_, ?_, trivial⟩
       ·
        refine R64.of ?_
        have hm := hM0 (by assumption); have a := selectivity_b hpre.1.1 fuel _ (hpre.1.2.kid (i := 0) (by omega)); have b := selectivity_b hpre.1.1 fuel _ (hpre.1.2.kid (i := 1) (by omega)); have c := selAnd a b; omega
       ·
        refine R64.of ?_
        have hm := hM0 (by assumption); have a := selectivity_b hpre.1.1 fuel _ (hpre.1.2.kid (i := 0) (by omega)); have b := selectivity_b hpre.1.1 fuel _ (hpre.1.2.kid (i := 1) (by omega)); have c := selAnd a b; omega
       ·
        have hm := hM0 (by assumption); have a := selectivity_b hpre.1.1 fuel _ (hpre.1.2.kid (i := 0) (by omega)); have b := selectivity_b hpre.1.1 fuel _ (hpre.1.2.kid (i := 1) (by omega)); have c := selAnd a b; omega
       ·
        refine R64.of ?_
        have hm := hM0 (by assumption); have a := selectivity_b hpre.1.1 fuel _ (hpre.1.2.kid (i := 0) (by omega)); have b := selectivity_b hpre.1.1 fuel _ (hpre.1.2.kid (i := 1) (by omega)); have c := selAnd a b; omega
      exact AW.ret (AW.rI ((((selectivity_r fuel) (List.getD (Xpr.Kids e) 0 Xpr.zero) s) + ((selectivity_r fuel) (List.getD (Xpr.Kids e) 1 Xpr.zero) s)) - ((((selectivity_r fuel) (List.getD (Xpr.Kids e) 0 Xpr.zero) s) * ((selectivity_r fuel) (List.getD (Xpr.Kids e) 1 Xpr.zero) s)) / 1000)) e3981)
    ·
     intro h3982
     have h3982q : v25 = false := h3982
     have e3983 := e3755.trans (Go.Am.bif_f h3982)
     refine AW.seq (AW.r1 hC [0, 1, 10, 59] [] ⟨[(0, sR4 e), (1, sR6 s), (10, sI (Xpr.Kind e)), (59, sB ((Xpr.Kind e) == 6))], []⟩ ?_)
     refine AW.cd ((Xpr.Kind e) == 6) ?_ ?_
     ·
      intro h4076
      have h4076q := (Go.Am.beq_pos h4076)
      have e4077 := e3983.trans (Go.Am.bif_t h4076)
      refine AW.seq (AW.r0 hC [4] [] ⟨[(4, sI (equalPermille e s))], []⟩ [(VSt s ∧ VXn ((List.length (Sta.Distinct s) : Nat) : Int) e ∧ Xpr.Kind e = 6)] ?_ ?_)
      ·
       refine ⟨?_, trivial⟩
       ·
        exact ⟨hpre.1.1, hpre.1.2, by omega⟩
      exact AW.ret (AW.rI (equalPermille e s) e4077)
     ·
      intro h4078
      have h4078q := (Go.Am.beq_neg h4078)
      have e4079 := e3983.trans (Go.Am.bif_f h4078)
      refine AW.seq (AW.r1 hC [0, 1, 10, 64] [] ⟨[(0, sR4 e), (1, sR6 s), (10, sI (Xpr.Kind e)), (64, sB ((Xpr.Kind e) == 7))], []⟩ ?_)
      refine AW.cd ((Xpr.Kind e) == 7) ?_ ?_
      ·
       intro h4120
       have h4120q := (Go.Am.beq_pos h4120)
       have e4121 := e4079.trans (Go.Am.bif_t h4120)
       refine AW.seq (AW.r1 hC [4] [] ⟨[(4, sI 333)], []⟩ ?_)
       exact AW.ret (AW.rI 333 e4121)
      ·
       intro h4122
       have h4122q := (Go.Am.beq_neg h4122)
       have e4123 := e4079.trans (Go.Am.bif_f h4122)
       refine AW.seq (AW.r1 hC [0, 1, 66] [] ⟨[(0, sR4 e), (1, sR6 s), (66, sB ((Xpr.Kind e) == 11))], []⟩ ?_)
       refine AW.cd ((Xpr.Kind e) == 11) ?_ ?_
       ·
        intro h4140
        have h4140q := (Go.Am.beq_pos h4140)
        have e4141 := e4123.trans (Go.Am.bif_t h4140)
        refine AW.seq (AW.seq (AW.r0 hC [0, 1, 82] [] ⟨[(0, sR4 e), (1, sR6 s), (82, sB (bif ((Xpr.Kind (List.getD (Xpr.Kids e) 0 Xpr.zero)) != 1) then true else ((Sta.Rows s) == 0)))], []⟩ [IX (0 : Int) ((List.length (Xpr.Kids e) : Nat) : Int), ((((Xpr.Kind (List.getD (Xpr.Kids e) 0 Xpr.zero)) != 1) = false) → ((((Xpr.Kind (List.getD (Xpr.Kids e) 0 Xpr.zero)) != 1) = false))), ((((Xpr.Kind (List.getD (Xpr.Kids e) 0 Xpr.zero)) != 1) = false) → ((((Xpr.Kind (List.getD (Xpr.Kids e) 0 Xpr.zero)) != 1) = false))), ((((Xpr.Kind (List.getD (Xpr.Kids e) 0 Xpr.zero)) != 1) = false) → ((((Xpr.Kind (List.getD (Xpr.Kids e) 0 Xpr.zero)) != 1) = false))), ((((Xpr.Kind (List.getD (Xpr.Kids e) 0 Xpr.zero)) != 1) = false) → ((((Xpr.Kind (List.getD (Xpr.Kids e) 0 Xpr.zero)) != 1) = false))), ((((Xpr.Kind (List.getD (Xpr.Kids e) 0 Xpr.zero)) != 1) = false) → ((((Xpr.Kind (List.getD (Xpr.Kids e) 0 Xpr.zero)) != 1) = false)))] ?_ ?_))
        ·
         refine ⟨?_, ?_, ?_, ?_, ?_, ?_, trivial⟩
         ·
          refine IX.of ?_
          omega
         ·
          intro g4142
          have g4142p0 : (Xpr.Kind (List.getD (Xpr.Kids e) 0 Xpr.zero)) = 1 := (Go.Am.bne_neg g4142)
          assumption
         ·
          intro g4143
          have g4143p0 : (Xpr.Kind (List.getD (Xpr.Kids e) 0 Xpr.zero)) = 1 := (Go.Am.bne_neg g4143)
          assumption
         ·
          intro g4144
          have g4144p0 : (Xpr.Kind (List.getD (Xpr.Kids e) 0 Xpr.zero)) = 1 := (Go.Am.bne_neg g4144)
          assumption
         ·
          intro g4145
          have g4145p0 : (Xpr.Kind (List.getD (Xpr.Kids e) 0 Xpr.zero)) = 1 := (Go.Am.bne_neg g4145)
          assumption
         ·
          intro g4146
          have g4146p0 : (Xpr.Kind (List.getD (Xpr.Kids e) 0 Xpr.zero)) = 1 := (Go.Am.bne_neg g4146)
          assumption
        refine AW.cd (bif ((Xpr.Kind (List.getD (Xpr.Kids e) 0 Xpr.zero)) != 1) then true else ((Sta.Rows s) == 0)) ?_ ?_
        ·
         intro h4152
         have h4152q : ((Xpr.Kind (List.getD (Xpr.Kids e) 0 Xpr.zero)) ≠ 1) ∨ ((Sta.Rows s) = 0) := (Or.imp (fun h => (Go.Am.bne_pos h)) (fun h => (Go.Am.beq_pos h)) (Go.Am.or_pos h4152))
         have e4153 := e4141.trans (Go.Am.bif_t h4152)
         refine AW.seq (AW.r1 hC [4] [] ⟨[(4, sI 0)], []⟩ ?_)
         exact AW.ret (AW.rI 0 e4153)
        ·
         intro h4154
         have h4154q : ((Xpr.Kind (List.getD (Xpr.Kids e) 0 Xpr.zero)) = 1) ∧ ((Sta.Rows s) ≠ 0) := (And.imp (fun h => (Go.Am.bne_neg h)) (fun h => (Go.Am.beq_neg h)) (Go.Am.or_neg h4154))
         have e4155 := e4141.trans (Go.Am.bif_f h4154)
         refine AW.kp [0, 1] [] ⟨[(0, sR4 e), (1, sR6 s)], []⟩ ?_
         refine AW.skip (AW.seq (AW.d0 hC hM [4] [] ⟨[(4, sI ((1000 * (List.getD (Sta.Nulls s) (Int.toNat (Xpr.Col (List.getD (Xpr.Kids e) 0 Xpr.zero))) 0)) / (Sta.Rows s)))], []⟩ [IX (0 : Int) ((List.length (Xpr.Kids e) : Nat) : Int), IX (Xpr.Col (List.getD (Xpr.Kids e) 0 Xpr.zero)) ((List.length (Sta.Nulls s) : Nat) : Int), R64 (1000 * (List.getD (Sta.Nulls s) (Int.toNat (Xpr.Col (List.getD (Xpr.Kids e) 0 Xpr.zero))) 0)), (0 ≤ (1000 * (List.getD (Sta.Nulls s) (Int.toNat (Xpr.Col (List.getD (Xpr.Kids e) 0 Xpr.zero))) 0)) ∧ 0 < (Sta.Rows s))] ?_ ?_))
         ·
          refine ⟨?_, ?_, ?_, ?_, trivial⟩
          ·
           refine IX.of ?_
           omega
          ·
           refine IX.of ?_
           have hc := (hpre.1.2.kid (i := 0) (by omega)).node.col (by omega); have hn2 := hpre.1.1.nulls (Int.toNat (Xpr.Col (List.getD (Xpr.Kids e) 0 Xpr.zero))) (by omega); omega
          ·
           refine R64.of ?_
           have hc := (hpre.1.2.kid (i := 0) (by omega)).node.col (by omega); have hn2 := hpre.1.1.nulls (Int.toNat (Xpr.Col (List.getD (Xpr.Kids e) 0 Xpr.zero))) (by omega); omega
          ·
           have hc := (hpre.1.2.kid (i := 0) (by omega)).node.col (by omega); have hn2 := hpre.1.1.nulls (Int.toNat (Xpr.Col (List.getD (Xpr.Kids e) 0 Xpr.zero))) (by omega); omega
         exact AW.ret (AW.rI ((1000 * (List.getD (Sta.Nulls s) (Int.toNat (Xpr.Col (List.getD (Xpr.Kids e) 0 Xpr.zero))) 0)) / (Sta.Rows s)) e4155)
       ·
        intro h4156
        have h4156q := (Go.Am.beq_neg h4156)
        have e4157 := e4123.trans (Go.Am.bif_f h4156)
        refine AW.kp [] [] ⟨[], []⟩ ?_
        refine AW.skip (AW.seq (AW.r1 hC [4] [] ⟨[(4, sI 500)], []⟩ ?_))
        exact AW.ret (AW.rI 500 e4157)

theorem selectivity_fu : AllTV (selectivity_sp.ps.map PK.ty) (fun tvs => selectivity_sp.pre tvs → ∃ k, (selectivity_spn k).pre tvs ∧ (selectivity_spn k).fn tvs = selectivity_sp.fn tvs ∧ (selectivity_spn k).bx tvs = selectivity_sp.bx tvs) :=
 (fun (e : Xpr) (s : Sta) h => ⟨SizeOf.sizeOf e + 1, (show (VSt s ∧ VXn ((List.length (Sta.Distinct s) : Nat) : Int) e) ∧ SizeOf.sizeOf e < SizeOf.sizeOf e + 1 from ⟨h, Nat.lt_succ_self _⟩), (show (selectivity_spn (SizeOf.sizeOf e + 1)).fn [⟨(.named 1), (e : Xpr)⟩, ⟨(.named 3), (s : Sta)⟩] = ([⟨(.int .i64), (selectivity_r (SizeOf.sizeOf e + 1) e s)⟩] : List TV) from by kernel_rfl).trans (show ([⟨(.int .i64), (selectivity_r (SizeOf.sizeOf e + 1) e s)⟩] : List TV) = selectivity_sp.fn [⟨(.named 1), (e : Xpr)⟩, ⟨(.named 3), (s : Sta)⟩] from by kernel_rfl), by kernel_rfl⟩)

theorem selectivity_ok : FnOK Try.prog 16 selectivity_sp := FnOK.of_fuel selectivity_okn (fun _ => rfl) (fun _ => rfl) (AllTV.get selectivity_fu)

def permille_r : Nat → Xpr → Sta → Int
 | 0, e, s => 0
 | fuel + 1, e, s => (bif ((Xpr.Kind e) == 2) then (1000 * (toInt ((truth (Xpr.V e)) == 1))) else (bif ((Xpr.Kind e) == 10) then (1000 - ((permille_r fuel) (List.getD (Xpr.Kids e) 0 Xpr.zero) s)) else (bif ((Xpr.Kind e) == 8) then ((((permille_r fuel) (List.getD (Xpr.Kids e) 0 Xpr.zero) s) * ((permille_r fuel) (List.getD (Xpr.Kids e) 1 Xpr.zero) s)) / 1000) else (bif ((Xpr.Kind e) == 9) then ((((permille_r fuel) (List.getD (Xpr.Kids e) 0 Xpr.zero) s) + ((permille_r fuel) (List.getD (Xpr.Kids e) 1 Xpr.zero) s)) - ((((permille_r fuel) (List.getD (Xpr.Kids e) 0 Xpr.zero) s) * ((permille_r fuel) (List.getD (Xpr.Kids e) 1 Xpr.zero) s)) / 1000)) else (bif ((Xpr.Kind e) == 6) then (bif (bif (bif ((Xpr.Kind (List.getD (Xpr.Kids e) 0 Xpr.zero)) == 1) then ((Xpr.Kind (List.getD (Xpr.Kids e) 1 Xpr.zero)) == 2) else false) then (!(Val.Null (Xpr.V (List.getD (Xpr.Kids e) 1 Xpr.zero)))) else false) then (equality s (Xpr.Col (List.getD (Xpr.Kids e) 0 Xpr.zero))) else 100) else (bif ((Xpr.Kind e) == 7) then 333 else (bif ((Xpr.Kind e) == 11) then (bif (bif ((Xpr.Kind (List.getD (Xpr.Kids e) 0 Xpr.zero)) == 1) then (decide (0 < (Sta.Rows s))) else false) then ((1000 * (List.getD (Sta.Nulls s) (Int.toNat (Xpr.Col (List.getD (Xpr.Kids e) 0 Xpr.zero))) 0)) / (Sta.Rows s)) else 0) else 500)))))))

def permille (e : Xpr) (s : Sta) : Int := permille_r (SizeOf.sizeOf e + 1) e s

def permille_spn (fuel : Nat) : FnSpec := mkSpec [.val (.named 1), .val (.named 3)] [.val (.int .i64)] (fun (e : Xpr) (s : Sta) => (VSt s ∧ VXn ((List.length (Sta.Distinct s) : Nat) : Int) e) ∧ SizeOf.sizeOf e < fuel) (fun (e : Xpr) (s : Sta) => [⟨(.int .i64), (permille_r fuel e s)⟩])

def permille_sp : FnSpec := mkSpec [.val (.named 1), .val (.named 3)] [.val (.int .i64)] (fun (e : Xpr) (s : Sta) => VSt s ∧ VXn ((List.length (Sta.Distinct s) : Nat) : Int) e) (fun (e : Xpr) (s : Sta) => [⟨(.int .i64), (permille e s)⟩])

theorem const_eq (e : Xpr) : 1000 * toInt (truth (Xpr.V e) == 1) = constantPermille e := by
 unfold constantPermille truth truthOf toInt
 cases Val.Null (Xpr.V e) with
 | true => rfl
 | false =>
  simp only [cond_false]
  cases (Val.N (Xpr.V e) == 0) <;> rfl

theorem permille_eq {s : Sta} (hs : VSt s) : ∀ (f : Nat) (e : Xpr), VXn ((List.length (Sta.Distinct s) : Nat) : Int) e → permille_r f e s = selectivity_r f e s := by
 intro f
 induction f with
 | zero => intro e h; rfl
 | succ f ih =>
  intro e h
  have hn := h.node
  have hnk := hn.kids
  have hkc := kids_cases (Xpr.Kind e)
  have hr := hs.rows
  have ne : ∀ j : Int, e.Kind ≠ j → (e.Kind == j) = false := fun j h => beq_false_of_ne h
  have te : ∀ j : Int, e.Kind = j → (e.Kind == j) = true := fun j h => beq_iff_eq.2 h
  unfold permille_r selectivity_r selectivity_j0
  simp only [Go.Am.andThen]
  by_cases h2 : e.Kind = 2
  ·
   rw [te 2 h2, cond_true, cond_true]
   exact const_eq e
  ·
   rw [ne 2 h2]
   simp only [cond_false]
   by_cases h10 : e.Kind = 10
   ·
    rw [te 10 h10]
    simp only [cond_true]
    rw [ih _ (h.kid (i := 0) (by omega))]
   ·
    rw [ne 10 h10]
    simp only [cond_false]
    by_cases h8 : e.Kind = 8
    ·
     rw [te 8 h8]
     simp only [cond_true]
     rw [ih _ (h.kid (i := 0) (by omega)), ih _ (h.kid (i := 1) (by omega))]
    ·
     by_cases h9 : e.Kind = 9
     ·
      rw [ne 8 h8, te 9 h9]
      simp only [cond_true, cond_false]
      rw [ih _ (h.kid (i := 0) (by omega)), ih _ (h.kid (i := 1) (by omega))]
     ·
      rw [ne 8 h8, ne 9 h9]
      simp only [cond_false]
      by_cases h6 : e.Kind = 6
      ·
       rw [te 6 h6]
       simp only [cond_true]
       exact (equalPermille_eq e s).symm
      ·
       rw [ne 6 h6]
       simp only [cond_false]
       by_cases h7 : e.Kind = 7
       ·
        rw [te 7 h7]
        rfl
       ·
        rw [ne 7 h7]
        simp only [cond_false]
        by_cases h11 : e.Kind = 11
        ·
         rw [te 11 h11]
         simp only [cond_true]
         rw [show ((Xpr.Kind (List.getD (Xpr.Kids e) 0 Xpr.zero)) != 1) = !((Xpr.Kind (List.getD (Xpr.Kids e) 0 Xpr.zero)) == 1) from rfl]
         by_cases h0 : s.Rows = 0
         ·
          rw [h0]
          cases ((Xpr.Kind (List.getD (Xpr.Kids e) 0 Xpr.zero)) == 1) <;> rfl
         ·
          rw [show (s.Rows == 0) = false from beq_false_of_ne h0, decide_eq_true (show 0 < s.Rows by omega)]
          cases ((Xpr.Kind (List.getD (Xpr.Kids e) 0 Xpr.zero)) == 1) <;> rfl
        ·
         rw [ne 11 h11]
         rfl

theorem permille_b {s : Sta} (hs : VSt s) (f : Nat) (e : Xpr) (h : VXn ((List.length (Sta.Distinct s) : Nat) : Int) e) : 0 ≤ permille_r f e s ∧ permille_r f e s ≤ 1000 := by
 rw [permille_eq hs f e h]
 exact selectivity_b hs f e h

theorem permille_okn (fuel : Nat) : FnOK Try.prog 19 (permille_spn fuel) := by
 induction fuel with
 | zero => exact FnOK.never Try.func19 (by kernel_rfl) rfl (fun _ _ h => absurd h.2 (Nat.not_lt_zero _))
 | succ fuel ih => ?_
 have hC : CtxOK Try.prog (mkCtx tyL [(19, (permille_spn fuel)), (33, toInt_sp), (34, truth_sp), (35, equality_sp)]) := CtxOK.cons ih (CtxOK.cons toInt_ok (CtxOK.cons truth_ok (CtxOK.cons equality_ok (CtxOK.nil tyOK))))
 have hM : Try.prog.follows .mixedOrders = true := Try.checked.mixed
 refine FnOK.of_body Try.func19 (by kernel_rfl) rfl (C := (mkCtx tyL [(19, (permille_spn fuel)), (33, toInt_sp), (34, truth_sp), (35, equality_sp)])) hC.ty (by kernel_rfl) ?_
 intro (e : Xpr) (s : Sta) hwf hpre E
 have hpre : (VSt s ∧ VXn ((List.length (Sta.Distinct s) : Nat) : Int) e) ∧ SizeOf.sizeOf e < fuel + 1 := hpre
 have hw_e : Wf ⟨(.named 1), (e : Xpr)⟩ := hwf _ (List.Mem.head _)
 obtain ⟨hr_e_Kind, hr_e_Col, hl_e_Kids⟩ := Xpr.wfl hw_e
 have hw_s : Wf ⟨(.named 3), (s : Sta)⟩ := hwf _ (List.Mem.tail _ (List.Mem.head _))
 obtain ⟨hr_s_Rows, hl_s_Distinct, hl_s_Nulls⟩ := Sta.wfl hw_s
 have hn := hpre.1.2.node
 have hnk := hn.kids
 have hkc := kids_cases (Xpr.Kind e)
 have hcol := hn.col
 have hlen := hpre.1.1.len
 have hr := hpre.1.1.rows
 have e0 : permille_r (fuel + 1) e s = permille_r (fuel + 1) e s := rfl
 refine AW.seq (AW.r1 hC [2, 3] [8, 12] ⟨[(2, .ref 8 1 0), (3, .ref 12 1 0)], [(8, .box 1 [sI (Xpr.Kind e), sI (Xpr.Col e), sB (Val.Null (Xpr.V e)), sI (Val.N (Xpr.V e)), sD11 (Xpr.Kids e)]), (12, .box 1 [sI (Sta.Rows s), sD8 (Sta.Distinct s), sD8 (Sta.Nulls s)])]⟩ ?_)
 refine AW.seq (AW.seq (AW.r1 hC [2, 3, 8] [8, 12] ⟨[(2, .ref 8 1 0), (3, .ref 12 1 0), (8, sI (Xpr.Kind e))], [(8, .box 1 [sI (Xpr.Kind e), sI (Xpr.Col e), sB (Val.Null (Xpr.V e)), sI (Val.N (Xpr.V e)), sD11 (Xpr.Kids e)]), (12, .box 1 [sI (Sta.Rows s), sD8 (Sta.Distinct s), sD8 (Sta.Nulls s)])]⟩ ?_))
 refine AW.block (AW.seq (AW.r1 hC [2, 3, 8, 9] [8, 12] ⟨[(2, .ref 8 1 0), (3, .ref 12 1 0), (8, sI (Xpr.Kind e)), (9, sB ((Xpr.Kind e) == 2))], [(8, .box 1 [sI (Xpr.Kind e), sI (Xpr.Col e), sB (Val.Null (Xpr.V e)), sI (Val.N (Xpr.V e)), sD11 (Xpr.Kids e)]), (12, .box 1 [sI (Sta.Rows s), sD8 (Sta.Distinct s), sD8 (Sta.Nulls s)])]⟩ ?_))
 refine AW.cd ((Xpr.Kind e) == 2) ?_ ?_
 ·
  intro h1
  have h1q := (Go.Am.beq_pos h1)
  have e2 := e0.trans (Go.Am.bif_t h1)
  refine AW.seq (AW.r0 hC [4] [] ⟨[(4, sI (1000 * (toInt ((truth (Xpr.V e)) == 1))))], []⟩ [(True), (True), R64 (1000 * (toInt ((truth (Xpr.V e)) == 1)))] ?_ ?_)
  ·
   refine ⟨?_, ?_, ?_, trivial⟩
   ·
    trivial
   ·
    trivial
   ·
    refine R64.of ?_
    have hti := toInt_b (truth (Xpr.V e) == 1); omega
  exact AW.ret (AW.rI (1000 * (toInt ((truth (Xpr.V e)) == 1))) e2)
 ·
  intro h3
  have h3q := (Go.Am.beq_neg h3)
  have e4 := e0.trans (Go.Am.bif_f h3)
  refine AW.seq (AW.r1 hC [2, 3, 8, 17] [8, 12] ⟨[(2, .ref 8 1 0), (3, .ref 12 1 0), (8, sI (Xpr.Kind e)), (17, sB ((Xpr.Kind e) == 10))], [(8, .box 1 [sI (Xpr.Kind e), sI (Xpr.Col e), sB (Val.Null (Xpr.V e)), sI (Val.N (Xpr.V e)), sD11 (Xpr.Kids e)]), (12, .box 1 [sI (Sta.Rows s), sD8 (Sta.Distinct s), sD8 (Sta.Nulls s)])]⟩ ?_)
  refine AW.cd ((Xpr.Kind e) == 10) ?_ ?_
  ·
   intro h5
   have h5q := (Go.Am.beq_pos h5)
   have e6 := e4.trans (Go.Am.bif_t h5)
   refine AW.seq (AW.d0 hC hM [4] [] ⟨[(4, sI (1000 - ((permille_r fuel) (List.getD (Xpr.Kids e) 0 Xpr.zero) s)))], []⟩ [IX (0 : Int) ((List.length (Xpr.Kids e) : Nat) : Int), ((VSt s ∧ VXn ((List.length (Sta.Distinct s) : Nat) : Int) (List.getD (Xpr.Kids e) 0 Xpr.zero)) ∧ SizeOf.sizeOf (List.getD (Xpr.Kids e) 0 Xpr.zero) < fuel), R64 (1000 - ((permille_r fuel) (List.getD (Xpr.Kids e) 0 Xpr.zero) s))] ?_ ?_)
   ·
    refine ⟨?_, ?_, ?_, trivial⟩
    ·
     refine IX.of ?_
     omega
    ·
     exact ⟨⟨hpre.1.1, hpre.1.2.kid (by omega)⟩, Nat.lt_of_lt_of_le (kid_lt (by omega)) (Nat.le_of_lt_succ hpre.2)⟩
    ·
     refine R64.of ?_
     have a := permille_b hpre.1.1 fuel _ (hpre.1.2.kid (i := 0) (by omega)); first | omega | (have b := permille_b hpre.1.1 fuel _ (hpre.1.2.kid (i := 1) (by omega)); have c := selAnd a b; omega)
   exact AW.ret (AW.rI (1000 - ((permille_r fuel) (List.getD (Xpr.Kids e) 0 Xpr.zero) s)) e6)
  ·
   intro h7
   have h7q := (Go.Am.beq_neg h7)
   have e8 := e4.trans (Go.Am.bif_f h7)
   refine AW.seq (AW.r1 hC [2, 3, 8, 26] [8, 12] ⟨[(2, .ref 8 1 0), (3, .ref 12 1 0), (8, sI (Xpr.Kind e)), (26, sB ((Xpr.Kind e) == 8))], [(8, .box 1 [sI (Xpr.Kind e), sI (Xpr.Col e), sB (Val.Null (Xpr.V e)), sI (Val.N (Xpr.V e)), sD11 (Xpr.Kids e)]), (12, .box 1 [sI (Sta.Rows s), sD8 (Sta.Distinct s), sD8 (Sta.Nulls s)])]⟩ ?_)
   refine AW.cd ((Xpr.Kind e) == 8) ?_ ?_
   ·
    intro h9
    have h9q := (Go.Am.beq_pos h9)
    have e10 := e8.trans (Go.Am.bif_t h9)
    refine AW.seq (AW.d0 hC hM [4] [] ⟨[(4, sI ((((permille_r fuel) (List.getD (Xpr.Kids e) 0 Xpr.zero) s) * ((permille_r fuel) (List.getD (Xpr.Kids e) 1 Xpr.zero) s)) / 1000))], []⟩ [IX (0 : Int) ((List.length (Xpr.Kids e) : Nat) : Int), ((VSt s ∧ VXn ((List.length (Sta.Distinct s) : Nat) : Int) (List.getD (Xpr.Kids e) 0 Xpr.zero)) ∧ SizeOf.sizeOf (List.getD (Xpr.Kids e) 0 Xpr.zero) < fuel), IX (1 : Int) ((List.length (Xpr.Kids e) : Nat) : Int), ((VSt s ∧ VXn ((List.length (Sta.Distinct s) : Nat) : Int) (List.getD (Xpr.Kids e) 1 Xpr.zero)) ∧ SizeOf.sizeOf (List.getD (Xpr.Kids e) 1 Xpr.zero) < fuel), R64 (((permille_r fuel) (List.getD (Xpr.Kids e) 0 Xpr.zero) s) * ((permille_r fuel) (List.getD (Xpr.Kids e) 1 Xpr.zero) s)), (0 ≤ (((permille_r fuel) (List.getD (Xpr.Kids e) 0 Xpr.zero) s) * ((permille_r fuel) (List.getD (Xpr.Kids e) 1 Xpr.zero) s)) ∧ 0 < (1000 : Int))] ?_ ?_)
    ·
     refine ⟨?_, ?_, ?_, ?_, ?_, ?_, trivial⟩
     ·
      refine IX.of ?_
      omega
     ·
      exact ⟨⟨hpre.1.1, hpre.1.2.kid (by omega)⟩, Nat.lt_of_lt_of_le (kid_lt (by omega)) (Nat.le_of_lt_succ hpre.2)⟩
     ·
      refine IX.of ?_
      omega
     ·
      exact ⟨⟨hpre.1.1, hpre.1.2.kid (by omega)⟩, Nat.lt_of_lt_of_le (kid_lt (by omega)) (Nat.le_of_lt_succ hpre.2)⟩
     ·
      refine R64.of ?_
      have a := permille_b hpre.1.1 fuel _ (hpre.1.2.kid (i := 0) (by omega)); first | omega | (have b := permille_b hpre.1.1 fuel _ (hpre.1.2.kid (i := 1) (by omega)); have c := selAnd a b; omega)
     ·
      have a := permille_b hpre.1.1 fuel _ (hpre.1.2.kid (i := 0) (by omega)); first | omega | (have b := permille_b hpre.1.1 fuel _ (hpre.1.2.kid (i := 1) (by omega)); have c := selAnd a b; omega)
    exact AW.ret (AW.rI ((((permille_r fuel) (List.getD (Xpr.Kids e) 0 Xpr.zero) s) * ((permille_r fuel) (List.getD (Xpr.Kids e) 1 Xpr.zero) s)) / 1000) e10)
   ·
    intro h11
    have h11q := (Go.Am.beq_neg h11)
    have e12 := e8.trans (Go.Am.bif_f h11)
    refine AW.seq (AW.r1 hC [2, 3, 8, 42] [8, 12] ⟨[(2, .ref 8 1 0), (3, .ref 12 1 0), (8, sI (Xpr.Kind e)), (42, sB ((Xpr.Kind e) == 9))], [(8, .box 1 [sI (Xpr.Kind e), sI (Xpr.Col e), sB (Val.Null (Xpr.V e)), sI (Val.N (Xpr.V e)), sD11 (Xpr.Kids e)]), (12, .box 1 [sI (Sta.Rows s), sD8 (Sta.Distinct s), sD8 (Sta.Nulls s)])]⟩ ?_)
    refine AW.cd ((Xpr.Kind e) == 9) ?_ ?_
    ·
     intro h13
     have h13q := (Go.Am.beq_pos h13)
     have e14 := e12.trans (Go.Am.bif_t h13)
     refine AW.seq (AW.d0 hC hM [2, 3, 5] [8, 12] ⟨[(2, .ref 8 1 0), (3, .ref 12 1 0), (5, sI ((permille_r fuel) (List.getD (Xpr.Kids e) 0 Xpr.zero) s))], [(8, .box 1 [sI (Xpr.Kind e), sI (Xpr.Col e), sB (Val.Null (Xpr.V e)), sI (Val.N (Xpr.V e)), sD11 (Xpr.Kids e)]), (12, .box 1 [sI (Sta.Rows s), sD8 (Sta.Distinct s), sD8 (Sta.Nulls s)])]⟩ [IX (0 : Int) ((List.length (Xpr.Kids e) : Nat) : Int), ((VSt s ∧ VXn ((List.length (Sta.Distinct s) : Nat) : Int) (List.getD (Xpr.Kids e) 0 Xpr.zero)) ∧ SizeOf.sizeOf (List.getD (Xpr.Kids e) 0 Xpr.zero) < fuel)] ?_ ?_)
     ·
      refine ⟨?_, ?_, trivial⟩
      ·
       refine IX.of ?_
       omega
      ·
       exact ⟨⟨hpre.1.1, hpre.1.2.kid (by omega)⟩, Nat.lt_of_lt_of_le (kid_lt (by omega)) (Nat.le_of_lt_succ hpre.2)⟩
     refine AW.seq (AW.d0 hC hM [5, 6] [] ⟨[(5, sI ((permille_r fuel) (List.getD (Xpr.Kids e) 0 Xpr.zero) s)), (6, sI ((permille_r fuel) (List.getD (Xpr.Kids e) 1 Xpr.zero) s))], []⟩ [IX (1 : Int) ((List.length (Xpr.Kids e) : Nat) : Int), ((VSt s ∧ VXn ((List.length (Sta.Distinct s) : Nat) : Int) (List.getD (Xpr.Kids e) 1 Xpr.zero)) ∧ SizeOf.sizeOf (List.getD (Xpr.Kids e) 1 Xpr.zero) < fuel)] ?_ ?_)
     ·
      refine ⟨?_, ?_, trivial⟩
      ·
       refine IX.of ?_
       omega
      ·
       exact ⟨⟨hpre.1.1, hpre.1.2.kid (by omega)⟩, Nat.lt_of_lt_of_le (kid_lt (by omega)) (Nat.le_of_lt_succ hpre.2)⟩
     refine AW.seq (AW.r0 hC [4] [] ⟨[(4, sI ((((permille_r fuel) (List.getD (Xpr.Kids e) 0 Xpr.zero) s) + ((permille_r fuel) (List.getD (Xpr.Kids e) 1 Xpr.zero) s)) - ((((permille_r fuel) (List.getD (Xpr.Kids e) 0 Xpr.zero) s) * ((permille_r fuel) (List.getD (Xpr.Kids e) 1 Xpr.zero) s)) / 1000)))], []⟩ [R64 (((permille_r fuel) (List.getD (Xpr.Kids e) 0 Xpr.zero) s) + ((permille_r fuel) (List.getD (Xpr.Kids e) 1 Xpr.zero) s)), R64 (((permille_r fuel) (List.getD (Xpr.Kids e) 0 Xpr.zero) s) * ((permille_r fuel) (List.getD (Xpr.Kids e) 1 Xpr.zero) s)), (0 ≤ (((permille_r fuel) (List.getD (Xpr.Kids e) 0 Xpr.zero) s) * ((permille_r fuel) (List.getD (Xpr.Kids e) 1 Xpr.zero) s)) ∧ 0 < (1000 : Int)), R64 ((((permille_r fuel) (List.getD (Xpr.Kids e) 0 Xpr.zero) s) + ((permille_r fuel) (List.getD (Xpr.Kids e) 1 Xpr.zero) s)) - ((((permille_r fuel) (List.getD (Xpr.Kids e) 0 Xpr.zero) s) * ((permille_r fuel) (List.getD (Xpr.Kids e) 1 Xpr.zero) s)) / 1000))] ?_ ?_)
     ·
      refine ⟨?_, ?_, ?_, ?_, trivial⟩
      ·
       refine R64.of ?_
       have a := permille_b hpre.1.1 fuel _ (hpre.1.2.kid (i := 0) (by omega)); first | omega | (have b := permille_b hpre.1.1 fuel _ (hpre.1.2.kid (i := 1) (by omega)); have c := selAnd a b; omega)
      ·
       refine R64.of ?_
       have a := permille_b hpre.1.1 fuel _ (hpre.1.2.kid (i := 0) (by omega)); first | omega | (have b := permille_b hpre.1.1 fuel _ (hpre.1.2.kid (i := 1) (by omega)); have c := selAnd a b; omega)
      ·
       have a := permille_b hpre.1.1 fuel _ (hpre.1.2.kid (i := 0) (by omega)); first | omega | (have b := permille_b hpre.1.1 fuel _ (hpre.1.2.kid (i := 1) (by omega)); have c := selAnd a b; omega)
      ·
       refine R64.of ?_
       have a := permille_b hpre.1.1 fuel _ (hpre.1.2.kid (i := 0) (by omega)); first | omega | (have b := permille_b hpre.1.1 fuel _ (hpre.1.2.kid (i := 1) (by omega)); have c := selAnd a b; omega)
     exact AW.ret (AW.rI ((((permille_r fuel) (List.getD (Xpr.Kids e) 0 Xpr.zero) s) + ((permille_r fuel) (List.getD (Xpr.Kids e) 1 Xpr.zero) s)) - ((((permille_r fuel) (List.getD (Xpr.Kids e) 0 Xpr.zero) s) * ((permille_r fuel) (List.getD (Xpr.Kids e) 1 Xpr.zero) s)) / 1000)) e14)
    ·
     intro h15
     have h15q := (Go.Am.beq_neg h15)
     have e16 := e12.trans (Go.Am.bif_f h15)
     refine AW.seq (AW.r1 hC [2, 3, 8, 64] [8, 12] ⟨[(2, .ref 8 1 0), (3, .ref 12 1 0), (8, sI (Xpr.Kind e)), (64, sB ((Xpr.Kind e) == 6))], [(8, .box 1 [sI (Xpr.Kind e), sI (Xpr.Col e), sB (Val.Null (Xpr.V e)), sI (Val.N (Xpr.V e)), sD11 (Xpr.Kids e)]), (12, .box 1 [sI (Sta.Rows s), sD8 (Sta.Distinct s), sD8 (Sta.Nulls s)])]⟩ ?_)
     refine AW.cd ((Xpr.Kind e) == 6) ?_ ?_
     ·
      intro h17
      have h17q := (Go.Am.beq_pos h17)
      have e18 := e16.trans (Go.Am.bif_t h17)
      refine AW.seq (AW.seq (AW.r0 hC [2, 3, 88] [8, 12] ⟨[(2, .ref 8 1 0), (3, .ref 12 1 0), (88, sB (bif (bif ((Xpr.Kind (List.getD (Xpr.Kids e) 0 Xpr.zero)) == 1) then ((Xpr.Kind (List.getD (Xpr.Kids e) 1 Xpr.zero)) == 2) else false) then (!(Val.Null (Xpr.V (List.getD (Xpr.Kids e) 1 Xpr.zero)))) else false))], [(8, .box 1 [sI (Xpr.Kind e), sI (Xpr.Col e), sB (Val.Null (Xpr.V e)), sI (Val.N (Xpr.V e)), sD11 (Xpr.Kids e)]), (12, .box 1 [sI (Sta.Rows s), sD8 (Sta.Distinct s), sD8 (Sta.Nulls s)])]⟩ [IX (0 : Int) ((List.length (Xpr.Kids e) : Nat) : Int), ((((Xpr.Kind (List.getD (Xpr.Kids e) 0 Xpr.zero)) == 1) = true) → ((((Xpr.Kind (List.getD (Xpr.Kids e) 0 Xpr.zero)) == 1) = true))), ((((Xpr.Kind (List.getD (Xpr.Kids e) 0 Xpr.zero)) == 1) = true) → ((((Xpr.Kind (List.getD (Xpr.Kids e) 0 Xpr.zero)) == 1) = true))), ((((Xpr.Kind (List.getD (Xpr.Kids e) 0 Xpr.zero)) == 1) = true) → IX (1 : Int) ((List.length (Xpr.Kids e) : Nat) : Int)), ((((Xpr.Kind (List.getD (Xpr.Kids e) 0 Xpr.zero)) == 1) = true) → ((((Xpr.Kind (List.getD (Xpr.Kids e) 0 Xpr.zero)) == 1) = true))), ((((Xpr.Kind (List.getD (Xpr.Kids e) 0 Xpr.zero)) == 1) = true) → ((((Xpr.Kind (List.getD (Xpr.Kids e) 0 Xpr.zero)) == 1) = true))), ((((Xpr.Kind (List.getD (Xpr.Kids e) 0 Xpr.zero)) == 1) = true) → ((((Xpr.Kind (List.getD (Xpr.Kids e) 0 Xpr.zero)) == 1) = true))), ((((Xpr.Kind (List.getD (Xpr.Kids e) 0 Xpr.zero)) == 1) = true) → ((((Xpr.Kind (List.getD (Xpr.Kids e) 0 Xpr.zero)) == 1) = true))), (((bif ((Xpr.Kind (List.getD (Xpr.Kids e) 0 Xpr.zero)) == 1) then ((Xpr.Kind (List.getD (Xpr.Kids e) 1 Xpr.zero)) == 2) else false) = true) → (((bif ((Xpr.Kind (List.getD (Xpr.Kids e) 0 Xpr.zero)) == 1) then ((Xpr.Kind (List.getD (Xpr.Kids e) 1 Xpr.zero)) == 2) else false) = true))), (((bif ((Xpr.Kind (List.getD (Xpr.Kids e) 0 Xpr.zero)) == 1) then ((Xpr.Kind (List.getD (Xpr.Kids e) 1 Xpr.zero)) == 2) else false) = true) → (((bif ((Xpr.Kind (List.getD (Xpr.Kids e) 0 Xpr.zero)) == 1) then ((Xpr.Kind (List.getD (Xpr.Kids e) 1 Xpr.zero)) == 2) else false) = true))), (((bif ((Xpr.Kind (List.getD (Xpr.Kids e) 0 Xpr.zero)) == 1) then ((Xpr.Kind (List.getD (Xpr.Kids e) 1 Xpr.zero)) == 2) else false) = true) → IX (1 : Int) ((List.length (Xpr.Kids e) : Nat) : Int)), (((bif ((Xpr.Kind (List.getD (Xpr.Kids e) 0 Xpr.zero)) == 1) then ((Xpr.Kind (List.getD (Xpr.Kids e) 1 Xpr.zero)) == 2) else false) = true) → (((bif ((Xpr.Kind (List.getD (Xpr.Kids e) 0 Xpr.zero)) == 1) then ((Xpr.Kind (List.getD (Xpr.Kids e) 1 Xpr.zero)) == 2) else false) = true))), (((bif ((Xpr.Kind (List.getD (Xpr.Kids e) 0 Xpr.zero)) == 1) then ((Xpr.Kind (List.getD (Xpr.Kids e) 1 Xpr.zero)) == 2) else false) = true) → (((bif ((Xpr.Kind (List.getD (Xpr.Kids e) 0 Xpr.zero)) == 1) then ((Xpr.Kind (List.getD (Xpr.Kids e) 1 Xpr.zero)) == 2) else false) = true))), (((bif ((Xpr.Kind (List.getD (Xpr.Kids e) 0 Xpr.zero)) == 1) then ((Xpr.Kind (List.getD (Xpr.Kids e) 1 Xpr.zero)) == 2) else false) = true) → (((bif ((Xpr.Kind (List.getD (Xpr.Kids e) 0 Xpr.zero)) == 1) then ((Xpr.Kind (List.getD (Xpr.Kids e) 1 Xpr.zero)) == 2) else false) = true))), (((bif ((Xpr.Kind (List.getD (Xpr.Kids e) 0 Xpr.zero)) == 1) then ((Xpr.Kind (List.getD (Xpr.Kids e) 1 Xpr.zero)) == 2) else false) = true) → (((bif ((Xpr.Kind (List.getD (Xpr.Kids e) 0 Xpr.zero)) == 1) then ((Xpr.Kind (List.getD (Xpr.Kids e) 1 Xpr.zero)) == 2) else false) = true))), (((bif ((Xpr.Kind (List.getD (Xpr.Kids e) 0 Xpr.zero)) == 1) then ((Xpr.Kind (List.getD (Xpr.Kids e) 1 Xpr.zero)) == 2) else false) = true) → (((bif ((Xpr.Kind (List.getD (Xpr.Kids e) 0 Xpr.zero)) == 1) then ((Xpr.Kind (List.getD (Xpr.Kids e) 1 Xpr.zero)) == 2) else false) = true)))] ?_ ?_))
      ·
       refine ⟨?_, ?_, ?_, ?_, ?_, ?_, ?_, ?_, ?_, ?_, ?_, ?_, ?_, ?_, ?_, ?_, trivial⟩
       ·
        refine IX.of ?_
        omega
       ·
        intro g19
        have g19p0 : (Xpr.Kind (List.getD (Xpr.Kids e) 0 Xpr.zero)) = 1 := (Go.Am.beq_pos g19)
        assumption
       ·
        intro g20
        have g20p0 : (Xpr.Kind (List.getD (Xpr.Kids e) 0 Xpr.zero)) = 1 := (Go.Am.beq_pos g20)
        assumption
       ·
        intro g21
        have g21p0 : (Xpr.Kind (List.getD (Xpr.Kids e) 0 Xpr.zero)) = 1 := (Go.Am.beq_pos g21)
        refine IX.of ?_
        omega
       ·
        intro g22
        have g22p0 : (Xpr.Kind (List.getD (Xpr.Kids e) 0 Xpr.zero)) = 1 := (Go.Am.beq_pos g22)
        assumption
       ·
        intro g23
        have g23p0 : (Xpr.Kind (List.getD (Xpr.Kids e) 0 Xpr.zero)) = 1 := (Go.Am.beq_pos g23)
        assumption
       ·
        intro g24
        have g24p0 : (Xpr.Kind (List.getD (Xpr.Kids e) 0 Xpr.zero)) = 1 := (Go.Am.beq_pos g24)
        assumption
       ·
        intro g25
        have g25p0 : (Xpr.Kind (List.getD (Xpr.Kids e) 0 Xpr.zero)) = 1 := (Go.Am.beq_pos g25)
        assumption
       ·
        intro g26
        have g26p0 : ((Xpr.Kind (List.getD (Xpr.Kids e) 0 Xpr.zero)) = 1) ∧ ((Xpr.Kind (List.getD (Xpr.Kids e) 1 Xpr.zero)) = 2) := (And.imp (fun h => (Go.Am.beq_pos h)) (fun h => (Go.Am.beq_pos h)) (Go.Am.and_pos g26))
        assumption
       ·
        intro g27
        have g27p0 : ((Xpr.Kind (List.getD (Xpr.Kids e) 0 Xpr.zero)) = 1) ∧ ((Xpr.Kind (List.getD (Xpr.Kids e) 1 Xpr.zero)) = 2) := (And.imp (fun h => (Go.Am.beq_pos h)) (fun h => (Go.Am.beq_pos h)) (Go.Am.and_pos g27))
        assumption
       ·
        intro g28
        have g28p0 : ((Xpr.Kind (List.getD (Xpr.Kids e) 0 Xpr.zero)) = 1) ∧ ((Xpr.Kind (List.getD (Xpr.Kids e) 1 Xpr.zero)) = 2) := (And.imp (fun h => (Go.Am.beq_pos h)) (fun h => (Go.Am.beq_pos h)) (Go.Am.and_pos g28))
        refine IX.of ?_
        omega
       ·
        intro g29
        have g29p0 : ((Xpr.Kind (List.getD (Xpr.Kids e) 0 Xpr.zero)) = 1) ∧ ((Xpr.Kind (List.getD (Xpr.Kids e) 1 Xpr.zero)) = 2) := (And.imp (fun h => (Go.Am.beq_pos h)) (fun h => (Go.Am.beq_pos h)) (Go.Am.and_pos g29))
        assumption
       ·
        intro g30
        have g30p0 : ((Xpr.Kind (List.getD (Xpr.Kids e) 0 Xpr.zero)) = 1) ∧ ((Xpr.Kind (List.getD (Xpr.Kids e) 1 Xpr.zero)) = 2) := (And.imp (fun h => (Go.Am.beq_pos h)) (fun h => (Go.Am.beq_pos h)) (Go.Am.and_pos g30))
        assumption
       ·
        intro g31
        have g31p0 : ((Xpr.Kind (List.getD (Xpr.Kids e) 0 Xpr.zero)) = 1) ∧ ((Xpr.Kind (List.getD (Xpr.Kids e) 1 Xpr.zero)) = 2) := (And.imp (fun h => (Go.Am.beq_pos h)) (fun h => (Go.Am.beq_pos h)) (Go.Am.and_pos g31))
        assumption
       ·
        intro g32
        have g32p0 : ((Xpr.Kind (List.getD (Xpr.Kids e) 0 Xpr.zero)) = 1) ∧ ((Xpr.Kind (List.getD (Xpr.Kids e) 1 Xpr.zero)) = 2) := (And.imp (fun h => (Go.Am.beq_pos h)) (fun h => (Go.Am.beq_pos h)) (Go.Am.and_pos g32))
        assumption
       ·
        intro g33
        have g33p0 : ((Xpr.Kind (List.getD (Xpr.Kids e) 0 Xpr.zero)) = 1) ∧ ((Xpr.Kind (List.getD (Xpr.Kids e) 1 Xpr.zero)) = 2) := (And.imp (fun h => (Go.Am.beq_pos h)) (fun h => (Go.Am.beq_pos h)) (Go.Am.and_pos g33))
        assumption
      refine AW.cd (bif (bif ((Xpr.Kind (List.getD (Xpr.Kids e) 0 Xpr.zero)) == 1) then ((Xpr.Kind (List.getD (Xpr.Kids e) 1 Xpr.zero)) == 2) else false) then (!(Val.Null (Xpr.V (List.getD (Xpr.Kids e) 1 Xpr.zero)))) else false) ?_ ?_
      ·
       intro h34
       have h34q : (((Xpr.Kind (List.getD (Xpr.Kids e) 0 Xpr.zero)) = 1) ∧ ((Xpr.Kind (List.getD (Xpr.Kids e) 1 Xpr.zero)) = 2)) ∧ ((Val.Null (Xpr.V (List.getD (Xpr.Kids e) 1 Xpr.zero))) = false) := (And.imp (fun h => (And.imp (fun h => (Go.Am.beq_pos h)) (fun h => (Go.Am.beq_pos h)) (Go.Am.and_pos h))) (fun h => (Go.Am.not_pos h)) (Go.Am.and_pos h34))
       have e35 := e18.trans (Go.Am.bif_t h34)
       refine AW.seq (AW.d0 hC hM [4] [] ⟨[(4, sI (equality s (Xpr.Col (List.getD (Xpr.Kids e) 0 Xpr.zero))))], []⟩ [IX (0 : Int) ((List.length (Xpr.Kids e) : Nat) : Int), (VSt s ∧ (0 ≤ (Xpr.Col (List.getD (Xpr.Kids e) 0 Xpr.zero)) ∧ (Xpr.Col (List.getD (Xpr.Kids e) 0 Xpr.zero)) < ((List.length (Sta.Distinct s) : Nat) : Int)))] ?_ ?_)
       ·
        refine ⟨?_, ?_, trivial⟩
        ·
         refine IX.of ?_
         omega
        ·
         exact ⟨hpre.1.1, (hpre.1.2.kid (i := 0) (by omega)).node.col (by omega)⟩
       exact AW.ret (AW.rI (equality s (Xpr.Col (List.getD (Xpr.Kids e) 0 Xpr.zero))) e35)
      ·
       intro h36
       have h36q : (((Xpr.Kind (List.getD (Xpr.Kids e) 0 Xpr.zero)) ≠ 1) ∨ ((Xpr.Kind (List.getD (Xpr.Kids e) 1 Xpr.zero)) ≠ 2)) ∨ ((Val.Null (Xpr.V (List.getD (Xpr.Kids e) 1 Xpr.zero))) = true) := (Or.imp (fun h => (Or.imp (fun h => (Go.Am.beq_neg h)) (fun h => (Go.Am.beq_neg h)) (Go.Am.and_neg h))) (fun h => (Go.Am.not_neg h)) (Go.Am.and_neg h36))
       have e37 := e18.trans (Go.Am.bif_f h36)
       refine AW.kp [] [] ⟨[], []⟩ ?_
       refine AW.skip (AW.seq (AW.r1 hC [4] [] ⟨[(4, sI 100)], []⟩ ?_))
       exact AW.ret (AW.rI 100 e37)
     ·
      intro h38
      have h38q := (Go.Am.beq_neg h38)
      have e39 := e16.trans (Go.Am.bif_f h38)
      refine AW.seq (AW.r1 hC [2, 3, 8, 96] [8, 12] ⟨[(2, .ref 8 1 0), (3, .ref 12 1 0), (8, sI (Xpr.Kind e)), (96, sB ((Xpr.Kind e) == 7))], [(8, .box 1 [sI (Xpr.Kind e), sI (Xpr.Col e), sB (Val.Null (Xpr.V e)), sI (Val.N (Xpr.V e)), sD11 (Xpr.Kids e)]), (12, .box 1 [sI (Sta.Rows s), sD8 (Sta.Distinct s), sD8 (Sta.Nulls s)])]⟩ ?_)
      refine AW.cd ((Xpr.Kind e) == 7) ?_ ?_
      ·
       intro h40
       have h40q := (Go.Am.beq_pos h40)
       have e41 := e39.trans (Go.Am.bif_t h40)
       refine AW.seq (AW.r1 hC [4] [] ⟨[(4, sI 333)], []⟩ ?_)
       exact AW.ret (AW.rI 333 e41)
      ·
       intro h42
       have h42q := (Go.Am.beq_neg h42)
       have e43 := e39.trans (Go.Am.bif_f h42)
       refine AW.seq (AW.r1 hC [2, 3, 98] [8, 12] ⟨[(2, .ref 8 1 0), (3, .ref 12 1 0), (98, sB ((Xpr.Kind e) == 11))], [(8, .box 1 [sI (Xpr.Kind e), sI (Xpr.Col e), sB (Val.Null (Xpr.V e)), sI (Val.N (Xpr.V e)), sD11 (Xpr.Kids e)]), (12, .box 1 [sI (Sta.Rows s), sD8 (Sta.Distinct s), sD8 (Sta.Nulls s)])]⟩ ?_)
       refine AW.cd ((Xpr.Kind e) == 11) ?_ ?_
       ·
        intro h44
        have h44q := (Go.Am.beq_pos h44)
        have e45 := e43.trans (Go.Am.bif_t h44)
        refine AW.seq (AW.seq (AW.r0 hC [2, 3, 110] [8, 12] ⟨[(2, .ref 8 1 0), (3, .ref 12 1 0), (110, sB (bif ((Xpr.Kind (List.getD (Xpr.Kids e) 0 Xpr.zero)) == 1) then (decide (0 < (Sta.Rows s))) else false))], [(8, .box 1 [sI (Xpr.Kind e), sI (Xpr.Col e), sB (Val.Null (Xpr.V e)), sI (Val.N (Xpr.V e)), sD11 (Xpr.Kids e)]), (12, .box 1 [sI (Sta.Rows s), sD8 (Sta.Distinct s), sD8 (Sta.Nulls s)])]⟩ [IX (0 : Int) ((List.length (Xpr.Kids e) : Nat) : Int), ((((Xpr.Kind (List.getD (Xpr.Kids e) 0 Xpr.zero)) == 1) = true) → ((((Xpr.Kind (List.getD (Xpr.Kids e) 0 Xpr.zero)) == 1) = true))), ((((Xpr.Kind (List.getD (Xpr.Kids e) 0 Xpr.zero)) == 1) = true) → ((((Xpr.Kind (List.getD (Xpr.Kids e) 0 Xpr.zero)) == 1) = true))), ((((Xpr.Kind (List.getD (Xpr.Kids e) 0 Xpr.zero)) == 1) = true) → ((((Xpr.Kind (List.getD (Xpr.Kids e) 0 Xpr.zero)) == 1) = true)))] ?_ ?_))
        ·
         refine ⟨?_, ?_, ?_, ?_, trivial⟩
         ·
          refine IX.of ?_
          omega
         ·
          intro g46
          have g46p0 : (Xpr.Kind (List.getD (Xpr.Kids e) 0 Xpr.zero)) = 1 := (Go.Am.beq_pos g46)
          assumption
         ·
          intro g47
          have g47p0 : (Xpr.Kind (List.getD (Xpr.Kids e) 0 Xpr.zero)) = 1 := (Go.Am.beq_pos g47)
          assumption
         ·
          intro g48
          have g48p0 : (Xpr.Kind (List.getD (Xpr.Kids e) 0 Xpr.zero)) = 1 := (Go.Am.beq_pos g48)
          assumption
        refine AW.cd (bif ((Xpr.Kind (List.getD (Xpr.Kids e) 0 Xpr.zero)) == 1) then (decide (0 < (Sta.Rows s))) else false) ?_ ?_
        ·
         intro h49
         have h49q : ((Xpr.Kind (List.getD (Xpr.Kids e) 0 Xpr.zero)) = 1) ∧ (0 < (Sta.Rows s)) := (And.imp (fun h => (Go.Am.beq_pos h)) (fun h => (of_decide_eq_true h)) (Go.Am.and_pos h49))
         have e50 := e45.trans (Go.Am.bif_t h49)
         refine AW.seq (AW.d0 hC hM [4] [] ⟨[(4, sI ((1000 * (List.getD (Sta.Nulls s) (Int.toNat (Xpr.Col (List.getD (Xpr.Kids e) 0 Xpr.zero))) 0)) / (Sta.Rows s)))], []⟩ [IX (0 : Int) ((List.length (Xpr.Kids e) : Nat) : Int), IX (Xpr.Col (List.getD (Xpr.Kids e) 0 Xpr.zero)) ((List.length (Sta.Nulls s) : Nat) : Int), R64 (1000 * (List.getD (Sta.Nulls s) (Int.toNat (Xpr.Col (List.getD (Xpr.Kids e) 0 Xpr.zero))) 0)), (0 ≤ (1000 * (List.getD (Sta.Nulls s) (Int.toNat (Xpr.Col (List.getD (Xpr.Kids e) 0 Xpr.zero))) 0)) ∧ 0 < (Sta.Rows s))] ?_ ?_)
         ·
          refine ⟨?_, ?_, ?_, ?_, trivial⟩
          ·
           refine IX.of ?_
           omega
          ·
           refine IX.of ?_
           have hc := (hpre.1.2.kid (i := 0) (by omega)).node.col (by omega); have hn2 := hpre.1.1.nulls (Int.toNat (Xpr.Col (List.getD (Xpr.Kids e) 0 Xpr.zero))) (by omega); omega
          ·
           refine R64.of ?_
           have hc := (hpre.1.2.kid (i := 0) (by omega)).node.col (by omega); have hn2 := hpre.1.1.nulls (Int.toNat (Xpr.Col (List.getD (Xpr.Kids e) 0 Xpr.zero))) (by omega); omega
          ·
           have hc := (hpre.1.2.kid (i := 0) (by omega)).node.col (by omega); have hn2 := hpre.1.1.nulls (Int.toNat (Xpr.Col (List.getD (Xpr.Kids e) 0 Xpr.zero))) (by omega); omega
         exact AW.ret (AW.rI ((1000 * (List.getD (Sta.Nulls s) (Int.toNat (Xpr.Col (List.getD (Xpr.Kids e) 0 Xpr.zero))) 0)) / (Sta.Rows s)) e50)
        ·
         intro h51
         have h51q : ((Xpr.Kind (List.getD (Xpr.Kids e) 0 Xpr.zero)) ≠ 1) ∨ (¬ (0 < (Sta.Rows s))) := (Or.imp (fun h => (Go.Am.beq_neg h)) (fun h => (of_decide_eq_false h)) (Go.Am.and_neg h51))
         have e52 := e45.trans (Go.Am.bif_f h51)
         refine AW.kp [] [] ⟨[], []⟩ ?_
         refine AW.skip (AW.seq (AW.r1 hC [4] [] ⟨[(4, sI 0)], []⟩ ?_))
         exact AW.ret (AW.rI 0 e52)
       ·
        intro h53
        have h53q := (Go.Am.beq_neg h53)
        have e54 := e43.trans (Go.Am.bif_f h53)
        refine AW.kp [] [] ⟨[], []⟩ ?_
        refine AW.skip (AW.seq (AW.r1 hC [4] [] ⟨[(4, sI 500)], []⟩ ?_))
        exact AW.ret (AW.rI 500 e54)

theorem permille_fu : AllTV (permille_sp.ps.map PK.ty) (fun tvs => permille_sp.pre tvs → ∃ k, (permille_spn k).pre tvs ∧ (permille_spn k).fn tvs = permille_sp.fn tvs ∧ (permille_spn k).bx tvs = permille_sp.bx tvs) :=
 (fun (e : Xpr) (s : Sta) h => ⟨SizeOf.sizeOf e + 1, (show (VSt s ∧ VXn ((List.length (Sta.Distinct s) : Nat) : Int) e) ∧ SizeOf.sizeOf e < SizeOf.sizeOf e + 1 from ⟨h, Nat.lt_succ_self _⟩), (show (permille_spn (SizeOf.sizeOf e + 1)).fn [⟨(.named 1), (e : Xpr)⟩, ⟨(.named 3), (s : Sta)⟩] = ([⟨(.int .i64), (permille_r (SizeOf.sizeOf e + 1) e s)⟩] : List TV) from by kernel_rfl).trans (show ([⟨(.int .i64), (permille_r (SizeOf.sizeOf e + 1) e s)⟩] : List TV) = permille_sp.fn [⟨(.named 1), (e : Xpr)⟩, ⟨(.named 3), (s : Sta)⟩] from by kernel_rfl), by kernel_rfl⟩)

theorem permille_ok : FnOK Try.prog 19 permille_sp := FnOK.of_fuel permille_okn (fun _ => rfl) (fun _ => rfl) (AllTV.get permille_fu)

end
end Go.Proofs.Ytdkopkplfdobnaa
