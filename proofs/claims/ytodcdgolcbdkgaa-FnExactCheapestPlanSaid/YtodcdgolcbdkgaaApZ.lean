/-
  A part of the proof of this claim (ApZ): what functions of the program compute, and plain facts of that. No conditions.
-/
import Derived.Test.YtodcdgolcbdkgaaApY
set_option linter.all false
namespace Go.Proofs.Ytodcdgolcbdkgaa
open Go Go.Am
noncomputable section

def est_r : Nat → Pln → (List Sta) → Int
 | 0, p, stats => 0
 | fuel + 1, p, stats => (bif ((Pln.Kind p) == 1) then (Sta.Rows (List.getD stats (Int.toNat (Pln.Table p)) Sta.zero)) else (bif ((Pln.Kind p) == 2) then (bif ((Pln.Kind (List.getD (Pln.Kids p) 0 Pln.zero)) == 1) then ((((est_r fuel) (List.getD (Pln.Kids p) 0 Pln.zero) stats) * (permille (List.getD (Pln.Exprs p) 0 Xpr.zero) (List.getD stats (Int.toNat (Pln.Table (List.getD (Pln.Kids p) 0 Pln.zero))) Sta.zero))) / 1000) else ((((est_r fuel) (List.getD (Pln.Kids p) 0 Pln.zero) stats) * (fixed (List.getD (Pln.Exprs p) 0 Xpr.zero))) / 1000)) else (bif ((Pln.Kind p) == 4) then (bif ((Pln.Kind p) == 4) then (bif ((Pln.Kind p) == 5) then (if (((if 1000000000 < (((est_r fuel) (List.getD (Pln.Kids p) 0 Pln.zero) stats) * ((est_r fuel) (List.getD (Pln.Kids p) 1 Pln.zero) stats)) then 1000000000 else (((est_r fuel) (List.getD (Pln.Kids p) 0 Pln.zero) stats) * ((est_r fuel) (List.getD (Pln.Kids p) 1 Pln.zero) stats))) * (fixed (List.getD (Pln.Exprs p) 0 Xpr.zero))) / 1000) > ((est_r fuel) (List.getD (Pln.Kids p) 0 Pln.zero) stats) then (((if 1000000000 < (((est_r fuel) (List.getD (Pln.Kids p) 0 Pln.zero) stats) * ((est_r fuel) (List.getD (Pln.Kids p) 1 Pln.zero) stats)) then 1000000000 else (((est_r fuel) (List.getD (Pln.Kids p) 0 Pln.zero) stats) * ((est_r fuel) (List.getD (Pln.Kids p) 1 Pln.zero) stats))) * (fixed (List.getD (Pln.Exprs p) 0 Xpr.zero))) / 1000) else ((est_r fuel) (List.getD (Pln.Kids p) 0 Pln.zero) stats)) else (((if 1000000000 < (((est_r fuel) (List.getD (Pln.Kids p) 0 Pln.zero) stats) * ((est_r fuel) (List.getD (Pln.Kids p) 1 Pln.zero) stats)) then 1000000000 else (((est_r fuel) (List.getD (Pln.Kids p) 0 Pln.zero) stats) * ((est_r fuel) (List.getD (Pln.Kids p) 1 Pln.zero) stats))) * (fixed (List.getD (Pln.Exprs p) 0 Xpr.zero))) / 1000)) else (bif ((Pln.Kind p) == 6) then (if 1000000000 < (((est_r fuel) (List.getD (Pln.Kids p) 0 Pln.zero) stats) + ((est_r fuel) (List.getD (Pln.Kids p) 1 Pln.zero) stats)) then 1000000000 else (((est_r fuel) (List.getD (Pln.Kids p) 0 Pln.zero) stats) + ((est_r fuel) (List.getD (Pln.Kids p) 1 Pln.zero) stats))) else (bif ((Pln.Kind p) == 8) then (bif (((List.length (Pln.Cols p) : Nat) : Int) == 0) then (if 1 < ((est_r fuel) (List.getD (Pln.Kids p) 0 Pln.zero) stats) then 1 else ((est_r fuel) (List.getD (Pln.Kids p) 0 Pln.zero) stats)) else ((est_r fuel) (List.getD (Pln.Kids p) 0 Pln.zero) stats)) else ((est_r fuel) (List.getD (Pln.Kids p) 0 Pln.zero) stats)))) else (bif ((Pln.Kind p) == 5) then (bif ((Pln.Kind p) == 5) then (if (((if 1000000000 < (((est_r fuel) (List.getD (Pln.Kids p) 0 Pln.zero) stats) * ((est_r fuel) (List.getD (Pln.Kids p) 1 Pln.zero) stats)) then 1000000000 else (((est_r fuel) (List.getD (Pln.Kids p) 0 Pln.zero) stats) * ((est_r fuel) (List.getD (Pln.Kids p) 1 Pln.zero) stats))) * (fixed (List.getD (Pln.Exprs p) 0 Xpr.zero))) / 1000) > ((est_r fuel) (List.getD (Pln.Kids p) 0 Pln.zero) stats) then (((if 1000000000 < (((est_r fuel) (List.getD (Pln.Kids p) 0 Pln.zero) stats) * ((est_r fuel) (List.getD (Pln.Kids p) 1 Pln.zero) stats)) then 1000000000 else (((est_r fuel) (List.getD (Pln.Kids p) 0 Pln.zero) stats) * ((est_r fuel) (List.getD (Pln.Kids p) 1 Pln.zero) stats))) * (fixed (List.getD (Pln.Exprs p) 0 Xpr.zero))) / 1000) else ((est_r fuel) (List.getD (Pln.Kids p) 0 Pln.zero) stats)) else (((if 1000000000 < (((est_r fuel) (List.getD (Pln.Kids p) 0 Pln.zero) stats) * ((est_r fuel) (List.getD (Pln.Kids p) 1 Pln.zero) stats)) then 1000000000 else (((est_r fuel) (List.getD (Pln.Kids p) 0 Pln.zero) stats) * ((est_r fuel) (List.getD (Pln.Kids p) 1 Pln.zero) stats))) * (fixed (List.getD (Pln.Exprs p) 0 Xpr.zero))) / 1000)) else (bif ((Pln.Kind p) == 6) then (if 1000000000 < (((est_r fuel) (List.getD (Pln.Kids p) 0 Pln.zero) stats) + ((est_r fuel) (List.getD (Pln.Kids p) 1 Pln.zero) stats)) then 1000000000 else (((est_r fuel) (List.getD (Pln.Kids p) 0 Pln.zero) stats) + ((est_r fuel) (List.getD (Pln.Kids p) 1 Pln.zero) stats))) else (bif ((Pln.Kind p) == 8) then (bif (((List.length (Pln.Cols p) : Nat) : Int) == 0) then (if 1 < ((est_r fuel) (List.getD (Pln.Kids p) 0 Pln.zero) stats) then 1 else ((est_r fuel) (List.getD (Pln.Kids p) 0 Pln.zero) stats)) else ((est_r fuel) (List.getD (Pln.Kids p) 0 Pln.zero) stats)) else ((est_r fuel) (List.getD (Pln.Kids p) 0 Pln.zero) stats)))))))

def est (p : Pln) (stats : List Sta) : Int := est_r (SizeOf.sizeOf p + 1) p stats

def est_spn (fuel : Nat) : FnSpec := mkSpec [.val (.named 2), .val (.slice (.named 3))] [.val (.int .i64)] (fun (p : Pln) (stats : List Sta) => (∃ l, PSt stats l p) ∧ SizeOf.sizeOf p < fuel) (fun (p : Pln) (stats : List Sta) => [⟨(.int .i64), (est_r fuel p stats)⟩])

def est_sp : FnSpec := mkSpec [.val (.named 2), .val (.slice (.named 3))] [.val (.int .i64)] (fun (p : Pln) (stats : List Sta) => ∃ l, PSt stats l p) (fun (p : Pln) (stats : List Sta) => [⟨(.int .i64), (est p stats)⟩])

theorem ifx_eq (e : Xpr) : fixed e = ifixed e := by
 unfold fixed ifixed
 rw [fixed_eq]

/-- What the reference's estimate is, in terms of its kids'. -/
theorem estv {stats : List Sta} {l : Nat} {p : Pln} (h : PSt stats l p) (f : Nat) : est_r (f + 1) p stats = iest_j8 p stats [est_r f (List.getD p.Kids 0 Pln.zero) stats, est_r f (List.getD p.Kids 1 Pln.zero) stats] := by
 obtain ⟨hO, -, -⟩ := h.pvw.pvn.of
 have hpc := parts2 p.Kind
 have hk := hO.kind
 have ne : ∀ j : Int, p.Kind ≠ j → (p.Kind == j) = false := fun j h => beq_false_of_ne h
 have te : ∀ j : Int, p.Kind = j → (p.Kind == j) = true := fun j h => beq_iff_eq.2 h
 rw [est_r]
 generalize est_r f (List.getD p.Kids 0 Pln.zero) stats = a
 generalize est_r f (List.getD p.Kids 1 Pln.zero) stats = b
 unfold iest_j8 iest_j7 iest_j6 iest_j5 iest_j4 iest_j3 iest_j2 iest_j1 iest_j0
 simp only [Go.Am.andThen, ifx_eq]
 by_cases h1 : p.Kind = 1
 ·
  rw [te 1 h1]; rfl
 ·
  rw [ne 1 h1]
  simp only [cond_false]
  by_cases h2 : p.Kind = 2
  ·
   rw [te 2 h2]
   simp only [cond_true]
   by_cases hk0 : (List.getD p.Kids 0 Pln.zero).Kind = 1
   ·
    rw [show ((List.getD p.Kids 0 Pln.zero).Kind == 1) = true from beq_iff_eq.2 hk0]
    simp only [cond_true]
    obtain ⟨s1, s2⟩ := h.sel h2 hk0
    have : permille (List.getD (Pln.Exprs p) 0 Xpr.zero) (List.getD stats (Int.toNat (Pln.Table (List.getD (Pln.Kids p) 0 Pln.zero))) Sta.zero) = selectivity (List.getD (Pln.Exprs p) 0 Xpr.zero) (List.getD stats (Int.toNat (Pln.Table (List.getD (Pln.Kids p) 0 Pln.zero))) Sta.zero) := permille_eq s1 _ _ s2
    rw [this]
    rfl
   ·
    rw [show ((List.getD p.Kids 0 Pln.zero).Kind == 1) = false from beq_false_of_ne hk0]
    rfl
  ·
   rw [ne 2 h2]
   simp only [cond_false]
   by_cases h4 : p.Kind = 4
   ·
    rw [te 4 h4, ne 5 (by omega)]
    rfl
   ·
    rw [ne 4 h4]
    simp only [cond_false]
    by_cases h5 : p.Kind = 5
    ·
     rw [te 5 h5]
     simp only [cond_true]
     show (if (if 1000000000 < a * b then 1000000000 else a * b) * ifixed (List.getD p.Exprs 0 Xpr.zero) / 1000 > a then (if 1000000000 < a * b then 1000000000 else a * b) * ifixed (List.getD p.Exprs 0 Xpr.zero) / 1000 else a) = (if a > (if 1000000000 < a * b then 1000000000 else a * b) * ifixed (List.getD p.Exprs 0 Xpr.zero) / 1000 then a else (if 1000000000 < a * b then 1000000000 else a * b) * ifixed (List.getD p.Exprs 0 Xpr.zero) / 1000)
     generalize (if 1000000000 < a * b then 1000000000 else a * b) * ifixed (List.getD p.Exprs 0 Xpr.zero) / 1000 = m
     by_cases g1 : m > a
     ·
      rw [if_pos g1, if_neg (by omega)]
     ·
      rw [if_neg g1]
      by_cases g2 : a > m
      ·
       rw [if_pos g2]
      ·
       rw [if_neg g2]; omega
    ·
     rw [ne 5 h5]
     simp only [cond_false]
     cases (p.Kind == 6) <;> cases (p.Kind == 8) <;> cases (((List.length (Pln.Cols p) : Nat) : Int) == 0) <;> rfl

theorem j8_irrel {p : Pln} {stats : List Sta} (a b b' : Int) (h : p.Kind ≠ 4 ∧ p.Kind ≠ 5 ∧ p.Kind ≠ 6) : iest_j8 p stats [a, b] = iest_j8 p stats [a, b'] := by
 have ne : ∀ j : Int, p.Kind ≠ j → (p.Kind == j) = false := fun j h => beq_false_of_ne h
 unfold iest_j8 iest_j7 iest_j6 iest_j5 iest_j4 iest_j3 iest_j1
 simp only [Go.Am.andThen]
 rw [ne 4 h.1, ne 5 h.2.1, ne 6 h.2.2]
 rfl

theorem j8_scan {p : Pln} {stats : List Sta} (a b a' b' : Int) (h : p.Kind = 1) : iest_j8 p stats [a, b] = iest_j8 p stats [a', b'] := by
 unfold iest_j8
 rw [show (p.Kind == 1) = true from beq_iff_eq.2 h]
 rfl

theorem el0 (self : Pln → (List Sta) → Cel → (Int × Cel)) (p : Pln) (stats : List Sta) (c : Int) (h : p.Kids.length = 0) : iest_l0 self p stats ((List.length (Pln.Kids p)) - 0 + 1) 0 c (List.replicate 2 0) = (c, [0, 0]) := by
 rw [h]
 show iest_l0 self p stats 1 0 c [0, 0] = _
 rw [iest_l0, ge_dec (by omega), cond_false]

theorem el1 (self : Pln → (List Sta) → Cel → (Int × Cel)) (p : Pln) (stats : List Sta) (c : Int) (h : p.Kids.length = 1) : iest_l0 self p stats ((List.length (Pln.Kids p)) - 0 + 1) 0 c (List.replicate 2 0) = ((self (List.getD p.Kids 0 Pln.zero) stats (Cel.mk c)).2.v, [(self (List.getD p.Kids 0 Pln.zero) stats (Cel.mk c)).1, 0]) := by
 rw [h]
 show iest_l0 self p stats 2 0 c [0, 0] = _
 rw [iest_l0, lt_dec (by omega), cond_true, iest_l0, ge_dec (by omega), cond_false]
 rfl

theorem el2 (self : Pln → (List Sta) → Cel → (Int × Cel)) (p : Pln) (stats : List Sta) (c : Int) (h : p.Kids.length = 2) : iest_l0 self p stats ((List.length (Pln.Kids p)) - 0 + 1) 0 c (List.replicate 2 0) =
  ((self (List.getD p.Kids 1 Pln.zero) stats (Cel.mk (self (List.getD p.Kids 0 Pln.zero) stats (Cel.mk c)).2.v)).2.v, [(self (List.getD p.Kids 0 Pln.zero) stats (Cel.mk c)).1, (self (List.getD p.Kids 1 Pln.zero) stats (Cel.mk (self (List.getD p.Kids 0 Pln.zero) stats (Cel.mk c)).2.v)).1]) := by
 rw [h]
 show iest_l0 self p stats 3 0 c [0, 0] = _
 rw [iest_l0, lt_dec (by omega), cond_true, iest_l0, lt_dec (by omega), cond_true, iest_l0, ge_dec (by omega), cond_false]
 rfl

theorem iest_out (f : Nat) (p : Pln) (stats : List Sta) (c : Cel) : iest_r (f + 1) p stats c = (iest_j8 p stats (iest_l0 (iest_r f) p stats ((List.length (Pln.Kids p)) - 0 + 1) 0 c.v (List.replicate 2 0)).2, Cel.mk ((iest_l0 (iest_r f) p stats ((List.length (Pln.Kids p)) - 0 + 1) 0 c.v (List.replicate 2 0)).1 + iest_j8 p stats (iest_l0 (iest_r f) p stats ((List.length (Pln.Kids p)) - 0 + 1) 0 c.v (List.replicate 2 0)).2)) := rfl

theorem est_eq (stats : List Sta) : ∀ (f : Nat) (p : Pln) (l : Nat) (c : Cel), PSt stats l p → est_r f p stats = (iest_r f p stats c).1 := by
 intro f
 induction f with
 | zero => intro p l c h; rfl
 | succ f ih =>
  intro p l c h
  obtain ⟨hO, -, -⟩ := h.pvw.pvn.of
  have hpc := parts2 p.Kind
  have hk := hO.kids
  rw [estv h, iest_out]
  show _ = iest_j8 p stats _
  by_cases h0 : p.Kids.length = 0
  ·
   rw [el0 _ _ _ _ h0]
   exact j8_scan _ _ _ _ (by have := hO.kind; omega)
  ·
   by_cases h1 : p.Kids.length = 1
   ·
    rw [el1 _ _ _ _ h1, ih _ (l - 1) (Cel.mk c.v) (h.kid (i := 0) (by omega)).2]
    exact j8_irrel _ _ _ (by omega)
   ·
    have h2 : p.Kids.length = 2 := by have := h.two; omega
    rw [el2 _ _ _ _ h2, ih _ (l - 1) (Cel.mk c.v) (h.kid (i := 0) (by omega)).2, ih _ (l - 1) (Cel.mk (iest_r f (List.getD p.Kids 0 Pln.zero) stats (Cel.mk c.v)).2.v) (h.kid (i := 1) (by omega)).2]

theorem est_irrel (stats : List Sta) : ∀ (f f' : Nat) (p : Pln) (l : Nat), PSt stats l p → SizeOf.sizeOf p < f → SizeOf.sizeOf p < f' → est_r f p stats = est_r f' p stats := by
 intro f
 induction f with
 | zero => intro f' p l h hf; omega
 | succ f ih =>
  intro f' p l h hf hf'
  cases f' with
  | zero => omega
  | succ f' =>
   obtain ⟨hO, -, -⟩ := h.pvw.pvn.of
   have hpc := parts2 p.Kind
   have hk := hO.kids
   rw [estv h, estv h]
   have kd : ∀ i, i < p.Kids.length → est_r f (List.getD p.Kids i Pln.zero) stats = est_r f' (List.getD p.Kids i Pln.zero) stats := fun i hi => by
    have := pkid_lt hi
    exact ih f' _ (l - 1) (h.kid hi).2 (by omega) (by omega)
   by_cases h0 : p.Kids.length = 0
   ·
    exact j8_scan _ _ _ _ (by have := hO.kind; omega)
   ·
    rw [kd 0 (by omega)]
    by_cases h1 : p.Kids.length = 1
    ·
     exact j8_irrel _ _ _ (by omega)
    ·
     rw [kd 1 (by have := h.two; omega)]

theorem est_b {stats : List Sta} {f l : Nat} {p : Pln} (h : PSt stats l p) (hs : SizeOf.sizeOf p < f) : 0 ≤ est_r f p stats ∧ est_r f p stats ≤ 1000000000 := by
 rw [est_eq stats f p l (Cel.mk 0) h]
 exact (iest_b stats f p l (Cel.mk 0) h hs (by show (0 : Int) ≤ 0; decide)).1

theorem fixed_bb (e : Xpr) : 0 ≤ fixed e ∧ fixed e ≤ 1000 := fixed_b _ e

theorem est_okn (fuel : Nat) : FnOK Try.prog 83 (est_spn fuel) := by
 induction fuel with
 | zero => exact FnOK.never Try.func83 (by kernel_rfl) rfl (fun _ _ h => absurd h.2 (Nat.not_lt_zero _))
 | succ fuel ih => ?_
 have hC : CtxOK Try.prog (mkCtx tyL [(83, (est_spn fuel)), (117, permille_sp), (118, fixed_sp)]) := CtxOK.cons ih (CtxOK.cons permille_ok (CtxOK.cons fixed_ok (CtxOK.nil tyOK)))
 have hM : Try.prog.follows .mixedOrders = true := Try.checked.mixed
 refine FnOK.of_body Try.func83 (by kernel_rfl) rfl (C := (mkCtx tyL [(83, (est_spn fuel)), (117, permille_sp), (118, fixed_sp)])) hC.ty (by kernel_rfl) ?_
 intro (p : Pln) (stats : List Sta) hwf hpre E
 have hpre : (∃ l, PSt stats l p) ∧ SizeOf.sizeOf p < fuel + 1 := hpre
 have hw_p : Wf ⟨(.named 2), (p : Pln)⟩ := hwf _ (List.Mem.head _)
 obtain ⟨hr_p_Kind, hr_p_Table, hl_p_Exprs, hl_p_Cols, hl_p_Kids⟩ := Pln.wfl hw_p
 have hw_stats : Wf ⟨(.slice (.named 3)), (stats : List Sta)⟩ := hwf _ (List.Mem.tail _ (List.Mem.head _))
 have hl_stats : ((List.length stats : Nat) : Int) ≤ 9223372036854775807 := hw_stats.len
 obtain ⟨lv, hPS⟩ := hpre.1
 obtain ⟨hO, hT, -⟩ := hPS.pvw.pvn.of
 have hpc := parts2 (Pln.Kind p)
 have hOk := hO.kids
 have hOc := hO.kind
 have h2l := hPS.two
 have hOe := hO.exprs
 have hTl := statsWidths_len stats
 have e0 : est_r (fuel + 1) p stats = est_r (fuel + 1) p stats := rfl
 refine AW.seq (AW.r1 hC [1, 2] [8] ⟨[(1, sD11 stats), (2, .ref 8 1 0)], [(8, .box 1 [sI (Pln.Kind p), sI (Pln.Table p), sD9 (Pln.Exprs p), sD7 (Pln.Cols p), sD10 (Pln.Kids p)])]⟩ ?_)
 refine AW.seq (AW.seq (AW.r1 hC [1, 2, 9] [8] ⟨[(1, sD11 stats), (2, .ref 8 1 0), (9, sB ((Pln.Kind p) == 1))], [(8, .box 1 [sI (Pln.Kind p), sI (Pln.Table p), sD9 (Pln.Exprs p), sD7 (Pln.Cols p), sD10 (Pln.Kids p)])]⟩ ?_))
 refine AW.cd ((Pln.Kind p) == 1) ?_ ?_
 ·
  intro h1
  have h1q := (Go.Am.beq_pos h1)
  have e2 := e0.trans (Go.Am.bif_t h1)
  refine AW.seq (AW.r0 hC [4] [] ⟨[(4, sI (Sta.Rows (List.getD stats (Int.toNat (Pln.Table p)) Sta.zero)))], []⟩ [IX (Pln.Table p) ((List.length stats : Nat) : Int)] ?_ ?_)
  ·
   refine ⟨?_, trivial⟩
   ·
    refine IX.of ?_
    omega
  exact AW.ret (AW.rI (Sta.Rows (List.getD stats (Int.toNat (Pln.Table p)) Sta.zero)) e2)
 ·
  intro h3
  have h3q := (Go.Am.beq_neg h3)
  have e4 := e0.trans (Go.Am.bif_f h3)
  refine AW.kp [1, 2] [8] ⟨[(1, sD11 stats), (2, .ref 8 1 0)], [(8, .box 1 [sI (Pln.Kind p), sI (Pln.Table p), sD9 (Pln.Exprs p), sD7 (Pln.Cols p), sD10 (Pln.Kids p)])]⟩ ?_
  refine AW.skip (AW.seq (AW.r0 hC [1, 2, 5] [8] ⟨[(1, sD11 stats), (2, .ref 8 1 0), (5, sI ((est_r fuel) (List.getD (Pln.Kids p) 0 Pln.zero) stats))], [(8, .box 1 [sI (Pln.Kind p), sI (Pln.Table p), sD9 (Pln.Exprs p), sD7 (Pln.Cols p), sD10 (Pln.Kids p)])]⟩ [IX (0 : Int) ((List.length (Pln.Kids p) : Nat) : Int), ((∃ l, PSt stats l (List.getD (Pln.Kids p) 0 Pln.zero)) ∧ SizeOf.sizeOf (List.getD (Pln.Kids p) 0 Pln.zero) < fuel)] ?_ ?_))
  ·
   refine ⟨?_, ?_, trivial⟩
   ·
    refine IX.of ?_
    omega
   ·
    exact ⟨⟨lv - 1, (hPS.kid (by omega)).2⟩, Nat.lt_of_lt_of_le (pkid_lt (by omega)) (Nat.le_of_lt_succ hpre.2)⟩
  refine AW.seq (AW.seq (AW.r1 hC [1, 2, 5, 23] [8] ⟨[(1, sD11 stats), (2, .ref 8 1 0), (5, sI ((est_r fuel) (List.getD (Pln.Kids p) 0 Pln.zero) stats)), (23, sI (Pln.Kind p))], [(8, .box 1 [sI (Pln.Kind p), sI (Pln.Table p), sD9 (Pln.Exprs p), sD7 (Pln.Cols p), sD10 (Pln.Kids p)])]⟩ ?_))
  refine AW.block (AW.seq (AW.r1 hC [1, 2, 5, 23, 24] [8] ⟨[(1, sD11 stats), (2, .ref 8 1 0), (5, sI ((est_r fuel) (List.getD (Pln.Kids p) 0 Pln.zero) stats)), (23, sI (Pln.Kind p)), (24, sB ((Pln.Kind p) == 2))], [(8, .box 1 [sI (Pln.Kind p), sI (Pln.Table p), sD9 (Pln.Exprs p), sD7 (Pln.Cols p), sD10 (Pln.Kids p)])]⟩ ?_))
  refine AW.cd ((Pln.Kind p) == 2) ?_ ?_
  ·
   intro h5
   have h5q := (Go.Am.beq_pos h5)
   have e6 := e4.trans (Go.Am.bif_t h5)
   refine AW.seq (AW.seq (AW.r0 hC [1, 2, 5, 31] [8] ⟨[(1, sD11 stats), (2, .ref 8 1 0), (5, sI ((est_r fuel) (List.getD (Pln.Kids p) 0 Pln.zero) stats)), (31, sB ((Pln.Kind (List.getD (Pln.Kids p) 0 Pln.zero)) == 1))], [(8, .box 1 [sI (Pln.Kind p), sI (Pln.Table p), sD9 (Pln.Exprs p), sD7 (Pln.Cols p), sD10 (Pln.Kids p)])]⟩ [IX (0 : Int) ((List.length (Pln.Kids p) : Nat) : Int)] ?_ ?_))
   ·
    refine ⟨?_, trivial⟩
    ·
     refine IX.of ?_
     omega
   refine AW.cd ((Pln.Kind (List.getD (Pln.Kids p) 0 Pln.zero)) == 1) ?_ ?_
   ·
    intro h7
    have h7q := (Go.Am.beq_pos h7)
    have e8 := e6.trans (Go.Am.bif_t h7)
    refine AW.seq (AW.d0 hC hM [4] [] ⟨[(4, sI ((((est_r fuel) (List.getD (Pln.Kids p) 0 Pln.zero) stats) * (permille (List.getD (Pln.Exprs p) 0 Xpr.zero) (List.getD stats (Int.toNat (Pln.Table (List.getD (Pln.Kids p) 0 Pln.zero))) Sta.zero))) / 1000))], []⟩ [IX (0 : Int) ((List.length (Pln.Exprs p) : Nat) : Int), IX (0 : Int) ((List.length (Pln.Kids p) : Nat) : Int), IX (Pln.Table (List.getD (Pln.Kids p) 0 Pln.zero)) ((List.length stats : Nat) : Int), (VSt (List.getD stats (Int.toNat (Pln.Table (List.getD (Pln.Kids p) 0 Pln.zero))) Sta.zero) ∧ VXn ((List.length (Sta.Distinct (List.getD stats (Int.toNat (Pln.Table (List.getD (Pln.Kids p) 0 Pln.zero))) Sta.zero)) : Nat) : Int) (List.getD (Pln.Exprs p) 0 Xpr.zero)), R64 (((est_r fuel) (List.getD (Pln.Kids p) 0 Pln.zero) stats) * (permille (List.getD (Pln.Exprs p) 0 Xpr.zero) (List.getD stats (Int.toNat (Pln.Table (List.getD (Pln.Kids p) 0 Pln.zero))) Sta.zero))), (0 ≤ (((est_r fuel) (List.getD (Pln.Kids p) 0 Pln.zero) stats) * (permille (List.getD (Pln.Exprs p) 0 Xpr.zero) (List.getD stats (Int.toNat (Pln.Table (List.getD (Pln.Kids p) 0 Pln.zero))) Sta.zero))) ∧ 0 < (1000 : Int))] ?_ ?_)
    ·
     refine ⟨?_, ?_, ?_, ?_, ?_, ?_, trivial⟩
     ·
      refine IX.of ?_
      omega
     ·
      refine IX.of ?_
      omega
     ·
      refine IX.of ?_
      have ht := (hPS.kid (i := 0) (by omega)).2.table (by omega); omega
     ·
      exact hPS.sel (by omega) (by omega)
     ·
      refine R64.of ?_
      have k0 := (Nat.lt_of_lt_of_le (pkid_lt (t := p) (i := 0) (by omega)) (Nat.le_of_lt_succ hpre.2)); have a := est_b (hPS.kid (i := 0) (by omega)).2 k0; have fx := fixed_bb (List.getD (Pln.Exprs p) 0 Xpr.zero); first | (have m := le_mul3 a.1 fx; omega) | (have hse := hPS.sel (by omega) (by omega); have pb : 0 ≤ permille (List.getD (Pln.Exprs p) 0 Xpr.zero) (List.getD stats (Int.toNat (Pln.Table (List.getD (Pln.Kids p) 0 Pln.zero))) Sta.zero) ∧ permille (List.getD (Pln.Exprs p) 0 Xpr.zero) (List.getD stats (Int.toNat (Pln.Table (List.getD (Pln.Kids p) 0 Pln.zero))) Sta.zero) ≤ 1000 := permille_b hse.1 _ _ hse.2; have m := le_mul3 a.1 pb; omega) | (have k1 := (Nat.lt_of_lt_of_le (pkid_lt (t := p) (i := 1) (by omega)) (Nat.le_of_lt_succ hpre.2)); have b := est_b (hPS.kid (i := 1) (by omega)).2 k1; have m := le_mul a b; have mb := minB m.1; have mx := le_mul3 mb.1 fx; omega)
     ·
      have k0 := (Nat.lt_of_lt_of_le (pkid_lt (t := p) (i := 0) (by omega)) (Nat.le_of_lt_succ hpre.2)); have a := est_b (hPS.kid (i := 0) (by omega)).2 k0; have fx := fixed_bb (List.getD (Pln.Exprs p) 0 Xpr.zero); first | (have m := le_mul3 a.1 fx; omega) | (have hse := hPS.sel (by omega) (by omega); have pb : 0 ≤ permille (List.getD (Pln.Exprs p) 0 Xpr.zero) (List.getD stats (Int.toNat (Pln.Table (List.getD (Pln.Kids p) 0 Pln.zero))) Sta.zero) ∧ permille (List.getD (Pln.Exprs p) 0 Xpr.zero) (List.getD stats (Int.toNat (Pln.Table (List.getD (Pln.Kids p) 0 Pln.zero))) Sta.zero) ≤ 1000 := permille_b hse.1 _ _ hse.2; have m := le_mul3 a.1 pb; omega) | (have k1 := (Nat.lt_of_lt_of_le (pkid_lt (t := p) (i := 1) (by omega)) (Nat.le_of_lt_succ hpre.2)); have b := est_b (hPS.kid (i := 1) (by omega)).2 k1; have m := le_mul a b; have mb := minB m.1; have mx := le_mul3 mb.1 fx; omega)
    exact AW.ret (AW.rI ((((est_r fuel) (List.getD (Pln.Kids p) 0 Pln.zero) stats) * (permille (List.getD (Pln.Exprs p) 0 Xpr.zero) (List.getD stats (Int.toNat (Pln.Table (List.getD (Pln.Kids p) 0 Pln.zero))) Sta.zero))) / 1000) e8)
   ·
    intro h9
    have h9q := (Go.Am.beq_neg h9)
    have e10 := e6.trans (Go.Am.bif_f h9)
    refine AW.kp [2, 5] [8] ⟨[(2, .ref 8 1 0), (5, sI ((est_r fuel) (List.getD (Pln.Kids p) 0 Pln.zero) stats))], [(8, .box 1 [sI (Pln.Kind p), sI (Pln.Table p), sD9 (Pln.Exprs p), sD7 (Pln.Cols p), sD10 (Pln.Kids p)])]⟩ ?_
    refine AW.skip (AW.seq (AW.r0 hC [4] [] ⟨[(4, sI ((((est_r fuel) (List.getD (Pln.Kids p) 0 Pln.zero) stats) * (fixed (List.getD (Pln.Exprs p) 0 Xpr.zero))) / 1000))], []⟩ [IX (0 : Int) ((List.length (Pln.Exprs p) : Nat) : Int), (∃ w, VXn w (List.getD (Pln.Exprs p) 0 Xpr.zero)), R64 (((est_r fuel) (List.getD (Pln.Kids p) 0 Pln.zero) stats) * (fixed (List.getD (Pln.Exprs p) 0 Xpr.zero))), (0 ≤ (((est_r fuel) (List.getD (Pln.Kids p) 0 Pln.zero) stats) * (fixed (List.getD (Pln.Exprs p) 0 Xpr.zero))) ∧ 0 < (1000 : Int))] ?_ ?_))
    ·
     refine ⟨?_, ?_, ?_, ?_, trivial⟩
     ·
      refine IX.of ?_
      omega
     ·
      exact (hPS.vx (by omega)).2
     ·
      refine R64.of ?_
      have k0 := (Nat.lt_of_lt_of_le (pkid_lt (t := p) (i := 0) (by omega)) (Nat.le_of_lt_succ hpre.2)); have a := est_b (hPS.kid (i := 0) (by omega)).2 k0; have fx := fixed_bb (List.getD (Pln.Exprs p) 0 Xpr.zero); first | (have m := le_mul3 a.1 fx; omega) | (have hse := hPS.sel (by omega) (by omega); have pb : 0 ≤ permille (List.getD (Pln.Exprs p) 0 Xpr.zero) (List.getD stats (Int.toNat (Pln.Table (List.getD (Pln.Kids p) 0 Pln.zero))) Sta.zero) ∧ permille (List.getD (Pln.Exprs p) 0 Xpr.zero) (List.getD stats (Int.toNat (Pln.Table (List.getD (Pln.Kids p) 0 Pln.zero))) Sta.zero) ≤ 1000 := permille_b hse.1 _ _ hse.2; have m := le_mul3 a.1 pb; omega) | (have k1 := (Nat.lt_of_lt_of_le (pkid_lt (t := p) (i := 1) (by omega)) (Nat.le_of_lt_succ hpre.2)); have b := est_b (hPS.kid (i := 1) (by omega)).2 k1; have m := le_mul a b; have mb := minB m.1; have mx := le_mul3 mb.1 fx; omega)
     ·
      have k0 := (Nat.lt_of_lt_of_le (pkid_lt (t := p) (i := 0) (by omega)) (Nat.le_of_lt_succ hpre.2)); have a := est_b (hPS.kid (i := 0) (by omega)).2 k0; have fx := fixed_bb (List.getD (Pln.Exprs p) 0 Xpr.zero); first | (have m := le_mul3 a.1 fx; omega) | (have hse := hPS.sel (by omega) (by omega); have pb : 0 ≤ permille (List.getD (Pln.Exprs p) 0 Xpr.zero) (List.getD stats (Int.toNat (Pln.Table (List.getD (Pln.Kids p) 0 Pln.zero))) Sta.zero) ∧ permille (List.getD (Pln.Exprs p) 0 Xpr.zero) (List.getD stats (Int.toNat (Pln.Table (List.getD (Pln.Kids p) 0 Pln.zero))) Sta.zero) ≤ 1000 := permille_b hse.1 _ _ hse.2; have m := le_mul3 a.1 pb; omega) | (have k1 := (Nat.lt_of_lt_of_le (pkid_lt (t := p) (i := 1) (by omega)) (Nat.le_of_lt_succ hpre.2)); have b := est_b (hPS.kid (i := 1) (by omega)).2 k1; have m := le_mul a b; have mb := minB m.1; have mx := le_mul3 mb.1 fx; omega)
    exact AW.ret (AW.rI ((((est_r fuel) (List.getD (Pln.Kids p) 0 Pln.zero) stats) * (fixed (List.getD (Pln.Exprs p) 0 Xpr.zero))) / 1000) e10)
  ·
   intro h11
   have h11q := (Go.Am.beq_neg h11)
   have e12 := e4.trans (Go.Am.bif_f h11)
   refine AW.seq (AW.seq (AW.r1 hC [1, 2, 5, 23, 56] [8] ⟨[(1, sD11 stats), (2, .ref 8 1 0), (5, sI ((est_r fuel) (List.getD (Pln.Kids p) 0 Pln.zero) stats)), (23, sI (Pln.Kind p)), (56, sB ((Pln.Kind p) == 4))], [(8, .box 1 [sI (Pln.Kind p), sI (Pln.Table p), sD9 (Pln.Exprs p), sD7 (Pln.Cols p), sD10 (Pln.Kids p)])]⟩ ?_))
   refine AW.cd ((Pln.Kind p) == 4) ?_ ?_
   ·
    intro h13
    have h13q := (Go.Am.beq_pos h13)
    have e14 := e12.trans (Go.Am.bif_t h13)
    refine AW.skip (AW.cd ((Pln.Kind p) == 4) ?_ ?_)
    ·
     intro h15
     have h15q := (Go.Am.beq_pos h15)
     have e16 := e14.trans (Go.Am.bif_t h15)
     refine AW.seq (AW.d0 hC hM [2, 5, 6] [8] ⟨[(2, .ref 8 1 0), (5, sI ((est_r fuel) (List.getD (Pln.Kids p) 0 Pln.zero) stats)), (6, sI (((if 1000000000 < (((est_r fuel) (List.getD (Pln.Kids p) 0 Pln.zero) stats) * ((est_r fuel) (List.getD (Pln.Kids p) 1 Pln.zero) stats)) then 1000000000 else (((est_r fuel) (List.getD (Pln.Kids p) 0 Pln.zero) stats) * ((est_r fuel) (List.getD (Pln.Kids p) 1 Pln.zero) stats))) * (fixed (List.getD (Pln.Exprs p) 0 Xpr.zero))) / 1000))], [(8, .box 1 [sI (Pln.Kind p), sI (Pln.Table p), sD9 (Pln.Exprs p), sD7 (Pln.Cols p), sD10 (Pln.Kids p)])]⟩ [IX (1 : Int) ((List.length (Pln.Kids p) : Nat) : Int), ((∃ l, PSt stats l (List.getD (Pln.Kids p) 1 Pln.zero)) ∧ SizeOf.sizeOf (List.getD (Pln.Kids p) 1 Pln.zero) < fuel), R64 (((est_r fuel) (List.getD (Pln.Kids p) 0 Pln.zero) stats) * ((est_r fuel) (List.getD (Pln.Kids p) 1 Pln.zero) stats)), IX (0 : Int) ((List.length (Pln.Exprs p) : Nat) : Int), (∃ w, VXn w (List.getD (Pln.Exprs p) 0 Xpr.zero)), R64 ((if 1000000000 < (((est_r fuel) (List.getD (Pln.Kids p) 0 Pln.zero) stats) * ((est_r fuel) (List.getD (Pln.Kids p) 1 Pln.zero) stats)) then 1000000000 else (((est_r fuel) (List.getD (Pln.Kids p) 0 Pln.zero) stats) * ((est_r fuel) (List.getD (Pln.Kids p) 1 Pln.zero) stats))) * (fixed (List.getD (Pln.Exprs p) 0 Xpr.zero))), (0 ≤ ((if 1000000000 < (((est_r fuel) (List.getD (Pln.Kids p) 0 Pln.zero) stats) * ((est_r fuel) (List.getD (Pln.Kids p) 1 Pln.zero) stats)) then 1000000000 else (((est_r fuel) (List.getD (Pln.Kids p) 0 Pln.zero) stats) * ((est_r fuel) (List.getD (Pln.Kids p) 1 Pln.zero) stats))) * (fixed (List.getD (Pln.Exprs p) 0 Xpr.zero))) ∧ 0 < (1000 : Int))] ?_ ?_)
     ·
      refine ⟨?_, ?_, ?_, ?_, ?_, ?_, ?_, trivial⟩
      ·
       refine IX.of ?_
       omega
      ·
       exact ⟨⟨lv - 1, (hPS.kid (by omega)).2⟩, Nat.lt_of_lt_of_le (pkid_lt (by omega)) (Nat.le_of_lt_succ hpre.2)⟩
      ·
       refine R64.of ?_
       have k0 := (Nat.lt_of_lt_of_le (pkid_lt (t := p) (i := 0) (by omega)) (Nat.le_of_lt_succ hpre.2)); have a := est_b (hPS.kid (i := 0) (by omega)).2 k0; have fx := fixed_bb (List.getD (Pln.Exprs p) 0 Xpr.zero); first | (have m := le_mul3 a.1 fx; omega) | (have hse := hPS.sel (by omega) (by omega); have pb : 0 ≤ permille (List.getD (Pln.Exprs p) 0 Xpr.zero) (List.getD stats (Int.toNat (Pln.Table (List.getD (Pln.Kids p) 0 Pln.zero))) Sta.zero) ∧ permille (List.getD (Pln.Exprs p) 0 Xpr.zero) (List.getD stats (Int.toNat (Pln.Table (List.getD (Pln.Kids p) 0 Pln.zero))) Sta.zero) ≤ 1000 := permille_b hse.1 _ _ hse.2; have m := le_mul3 a.1 pb; omega) | (have k1 := (Nat.lt_of_lt_of_le (pkid_lt (t := p) (i := 1) (by omega)) (Nat.le_of_lt_succ hpre.2)); have b := est_b (hPS.kid (i := 1) (by omega)).2 k1; have m := le_mul a b; have mb := minB m.1; have mx := le_mul3 mb.1 fx; omega)
      ·
       refine IX.of ?_
       omega
      ·
       exact (hPS.vx (by omega)).2
      ·
       refine R64.of ?_
       have k0 := (Nat.lt_of_lt_of_le (pkid_lt (t := p) (i := 0) (by omega)) (Nat.le_of_lt_succ hpre.2)); have a := est_b (hPS.kid (i := 0) (by omega)).2 k0; have fx := fixed_bb (List.getD (Pln.Exprs p) 0 Xpr.zero); first | (have m := le_mul3 a.1 fx; omega) | (have hse := hPS.sel (by omega) (by omega); have pb : 0 ≤ permille (List.getD (Pln.Exprs p) 0 Xpr.zero) (List.getD stats (Int.toNat (Pln.Table (List.getD (Pln.Kids p) 0 Pln.zero))) Sta.zero) ∧ permille (List.getD (Pln.Exprs p) 0 Xpr.zero) (List.getD stats (Int.toNat (Pln.Table (List.getD (Pln.Kids p) 0 Pln.zero))) Sta.zero) ≤ 1000 := permille_b hse.1 _ _ hse.2; have m := le_mul3 a.1 pb; omega) | (have k1 := (Nat.lt_of_lt_of_le (pkid_lt (t := p) (i := 1) (by omega)) (Nat.le_of_lt_succ hpre.2)); have b := est_b (hPS.kid (i := 1) (by omega)).2 k1; have m := le_mul a b; have mb := minB m.1; have mx := le_mul3 mb.1 fx; omega)
      ·
       have k0 := (Nat.lt_of_lt_of_le (pkid_lt (t := p) (i := 0) (by omega)) (Nat.le_of_lt_succ hpre.2)); have a := est_b (hPS.kid (i := 0) (by omega)).2 k0; have fx := fixed_bb (List.getD (Pln.Exprs p) 0 Xpr.zero); first | (have m := le_mul3 a.1 fx; omega) | (have hse := hPS.sel (by omega) (by omega); have pb : 0 ≤ permille (List.getD (Pln.Exprs p) 0 Xpr.zero) (List.getD stats (Int.toNat (Pln.Table (List.getD (Pln.Kids p) 0 Pln.zero))) Sta.zero) ∧ permille (List.getD (Pln.Exprs p) 0 Xpr.zero) (List.getD stats (Int.toNat (Pln.Table (List.getD (Pln.Kids p) 0 Pln.zero))) Sta.zero) ≤ 1000 := permille_b hse.1 _ _ hse.2; have m := le_mul3 a.1 pb; omega) | (have k1 := (Nat.lt_of_lt_of_le (pkid_lt (t := p) (i := 1) (by omega)) (Nat.le_of_lt_succ hpre.2)); have b := est_b (hPS.kid (i := 1) (by omega)).2 k1; have m := le_mul a b; have mb := minB m.1; have mx := le_mul3 mb.1 fx; omega)
     refine AW.seq (AW.seq (AW.r1 hC [5, 6, 77] [] ⟨[(5, sI ((est_r fuel) (List.getD (Pln.Kids p) 0 Pln.zero) stats)), (6, sI (((if 1000000000 < (((est_r fuel) (List.getD (Pln.Kids p) 0 Pln.zero) stats) * ((est_r fuel) (List.getD (Pln.Kids p) 1 Pln.zero) stats)) then 1000000000 else (((est_r fuel) (List.getD (Pln.Kids p) 0 Pln.zero) stats) * ((est_r fuel) (List.getD (Pln.Kids p) 1 Pln.zero) stats))) * (fixed (List.getD (Pln.Exprs p) 0 Xpr.zero))) / 1000)), (77, sB ((Pln.Kind p) == 5))], []⟩ ?_))
     refine AW.cd ((Pln.Kind p) == 5) ?_ ?_
     ·
      intro h17
      have h17q := (Go.Am.beq_pos h17)
      have e18 := e16.trans (Go.Am.bif_t h17)
      refine AW.seq (AW.r1 hC [4] [] ⟨[(4, sI (if (((if 1000000000 < (((est_r fuel) (List.getD (Pln.Kids p) 0 Pln.zero) stats) * ((est_r fuel) (List.getD (Pln.Kids p) 1 Pln.zero) stats)) then 1000000000 else (((est_r fuel) (List.getD (Pln.Kids p) 0 Pln.zero) stats) * ((est_r fuel) (List.getD (Pln.Kids p) 1 Pln.zero) stats))) * (fixed (List.getD (Pln.Exprs p) 0 Xpr.zero))) / 1000) > ((est_r fuel) (List.getD (Pln.Kids p) 0 Pln.zero) stats) then (((if 1000000000 < (((est_r fuel) (List.getD (Pln.Kids p) 0 Pln.zero) stats) * ((est_r fuel) (List.getD (Pln.Kids p) 1 Pln.zero) stats)) then 1000000000 else (((est_r fuel) (List.getD (Pln.Kids p) 0 Pln.zero) stats) * ((est_r fuel) (List.getD (Pln.Kids p) 1 Pln.zero) stats))) * (fixed (List.getD (Pln.Exprs p) 0 Xpr.zero))) / 1000) else ((est_r fuel) (List.getD (Pln.Kids p) 0 Pln.zero) stats)))], []⟩ ?_)
      exact AW.ret (AW.rI (if (((if 1000000000 < (((est_r fuel) (List.getD (Pln.Kids p) 0 Pln.zero) stats) * ((est_r fuel) (List.getD (Pln.Kids p) 1 Pln.zero) stats)) then 1000000000 else (((est_r fuel) (List.getD (Pln.Kids p) 0 Pln.zero) stats) * ((est_r fuel) (List.getD (Pln.Kids p) 1 Pln.zero) stats))) * (fixed (List.getD (Pln.Exprs p) 0 Xpr.zero))) / 1000) > ((est_r fuel) (List.getD (Pln.Kids p) 0 Pln.zero) stats) then (((if 1000000000 < (((est_r fuel) (List.getD (Pln.Kids p) 0 Pln.zero) stats) * ((est_r fuel) (List.getD (Pln.Kids p) 1 Pln.zero) stats)) then 1000000000 else (((est_r fuel) (List.getD (Pln.Kids p) 0 Pln.zero) stats) * ((est_r fuel) (List.getD (Pln.Kids p) 1 Pln.zero) stats))) * (fixed (List.getD (Pln.Exprs p) 0 Xpr.zero))) / 1000) else ((est_r fuel) (List.getD (Pln.Kids p) 0 Pln.zero) stats)) e18)
     ·
      intro h19
      have h19q := (Go.Am.beq_neg h19)
      have e20 := e16.trans (Go.Am.bif_f h19)
      refine AW.kp [6] [] ⟨[(6, sI (((if 1000000000 < (((est_r fuel) (List.getD (Pln.Kids p) 0 Pln.zero) stats) * ((est_r fuel) (List.getD (Pln.Kids p) 1 Pln.zero) stats)) then 1000000000 else (((est_r fuel) (List.getD (Pln.Kids p) 0 Pln.zero) stats) * ((est_r fuel) (List.getD (Pln.Kids p) 1 Pln.zero) stats))) * (fixed (List.getD (Pln.Exprs p) 0 Xpr.zero))) / 1000))], []⟩ ?_
      refine AW.skip (AW.seq (AW.r1 hC [4] [] ⟨[(4, sI (((if 1000000000 < (((est_r fuel) (List.getD (Pln.Kids p) 0 Pln.zero) stats) * ((est_r fuel) (List.getD (Pln.Kids p) 1 Pln.zero) stats)) then 1000000000 else (((est_r fuel) (List.getD (Pln.Kids p) 0 Pln.zero) stats) * ((est_r fuel) (List.getD (Pln.Kids p) 1 Pln.zero) stats))) * (fixed (List.getD (Pln.Exprs p) 0 Xpr.zero))) / 1000))], []⟩ ?_))
      exact AW.ret (AW.rI (((if 1000000000 < (((est_r fuel) (List.getD (Pln.Kids p) 0 Pln.zero) stats) * ((est_r fuel) (List.getD (Pln.Kids p) 1 Pln.zero) stats)) then 1000000000 else (((est_r fuel) (List.getD (Pln.Kids p) 0 Pln.zero) stats) * ((est_r fuel) (List.getD (Pln.Kids p) 1 Pln.zero) stats))) * (fixed (List.getD (Pln.Exprs p) 0 Xpr.zero))) / 1000) e20)
    ·
     intro h21
     have h21q := (Go.Am.beq_neg h21)
     have e22 := e14.trans (Go.Am.bif_f h21)
     refine AW.seq (AW.r1 hC [1, 2, 5, 23, 82] [8] ⟨[(1, sD11 stats), (2, .ref 8 1 0), (5, sI ((est_r fuel) (List.getD (Pln.Kids p) 0 Pln.zero) stats)), (23, sI (Pln.Kind p)), (82, sB ((Pln.Kind p) == 6))], [(8, .box 1 [sI (Pln.Kind p), sI (Pln.Table p), sD9 (Pln.Exprs p), sD7 (Pln.Cols p), sD10 (Pln.Kids p)])]⟩ ?_)
     refine AW.cd ((Pln.Kind p) == 6) ?_ ?_
     ·
      intro h23
      have h23q := (Go.Am.beq_pos h23)
      have e24 := e22.trans (Go.Am.bif_t h23)
      refine AW.seq (AW.r0 hC [4] [] ⟨[(4, sI (if 1000000000 < (((est_r fuel) (List.getD (Pln.Kids p) 0 Pln.zero) stats) + ((est_r fuel) (List.getD (Pln.Kids p) 1 Pln.zero) stats)) then 1000000000 else (((est_r fuel) (List.getD (Pln.Kids p) 0 Pln.zero) stats) + ((est_r fuel) (List.getD (Pln.Kids p) 1 Pln.zero) stats))))], []⟩ [IX (1 : Int) ((List.length (Pln.Kids p) : Nat) : Int), ((∃ l, PSt stats l (List.getD (Pln.Kids p) 1 Pln.zero)) ∧ SizeOf.sizeOf (List.getD (Pln.Kids p) 1 Pln.zero) < fuel), R64 (((est_r fuel) (List.getD (Pln.Kids p) 0 Pln.zero) stats) + ((est_r fuel) (List.getD (Pln.Kids p) 1 Pln.zero) stats))] ?_ ?_)
      ·
       refine ⟨?_, ?_, ?_, trivial⟩
       ·
        refine IX.of ?_
        omega
       ·
        exact ⟨⟨lv - 1, (hPS.kid (by omega)).2⟩, Nat.lt_of_lt_of_le (pkid_lt (by omega)) (Nat.le_of_lt_succ hpre.2)⟩
       ·
        refine R64.of ?_
        omega
      exact AW.ret (AW.rI (if 1000000000 < (((est_r fuel) (List.getD (Pln.Kids p) 0 Pln.zero) stats) + ((est_r fuel) (List.getD (Pln.Kids p) 1 Pln.zero) stats)) then 1000000000 else (((est_r fuel) (List.getD (Pln.Kids p) 0 Pln.zero) stats) + ((est_r fuel) (List.getD (Pln.Kids p) 1 Pln.zero) stats))) e24)
     ·
      intro h25
      have h25q := (Go.Am.beq_neg h25)
      have e26 := e22.trans (Go.Am.bif_f h25)
      refine AW.seq (AW.r1 hC [2, 5, 93] [8] ⟨[(2, .ref 8 1 0), (5, sI ((est_r fuel) (List.getD (Pln.Kids p) 0 Pln.zero) stats)), (93, sB ((Pln.Kind p) == 8))], [(8, .box 1 [sI (Pln.Kind p), sI (Pln.Table p), sD9 (Pln.Exprs p), sD7 (Pln.Cols p), sD10 (Pln.Kids p)])]⟩ ?_)
      refine AW.cd ((Pln.Kind p) == 8) ?_ ?_
      ·
       intro h27
       have h27q := (Go.Am.beq_pos h27)
       have e28 := e26.trans (Go.Am.bif_t h27)
       refine AW.seq (AW.r1 hC [5, 98] [] ⟨[(5, sI ((est_r fuel) (List.getD (Pln.Kids p) 0 Pln.zero) stats)), (98, sB (((List.length (Pln.Cols p) : Nat) : Int) == 0))], []⟩ ?_)
       refine AW.cd (((List.length (Pln.Cols p) : Nat) : Int) == 0) ?_ ?_
       ·
        intro h29
        have h29q := (Go.Am.beq_pos h29)
        have e30 := e28.trans (Go.Am.bif_t h29)
        refine AW.seq (AW.r1 hC [4] [] ⟨[(4, sI (if 1 < ((est_r fuel) (List.getD (Pln.Kids p) 0 Pln.zero) stats) then 1 else ((est_r fuel) (List.getD (Pln.Kids p) 0 Pln.zero) stats)))], []⟩ ?_)
        exact AW.ret (AW.rI (if 1 < ((est_r fuel) (List.getD (Pln.Kids p) 0 Pln.zero) stats) then 1 else ((est_r fuel) (List.getD (Pln.Kids p) 0 Pln.zero) stats)) e30)
       ·
        intro h31
        have h31q := (Go.Am.beq_neg h31)
        have e32 := e28.trans (Go.Am.bif_f h31)
        refine AW.kp [5] [] ⟨[(5, sI ((est_r fuel) (List.getD (Pln.Kids p) 0 Pln.zero) stats))], []⟩ ?_
        refine AW.skip (AW.seq (AW.r1 hC [4] [] ⟨[(4, sI ((est_r fuel) (List.getD (Pln.Kids p) 0 Pln.zero) stats))], []⟩ ?_))
        exact AW.ret (AW.rI ((est_r fuel) (List.getD (Pln.Kids p) 0 Pln.zero) stats) e32)
      ·
       intro h33
       have h33q := (Go.Am.beq_neg h33)
       have e34 := e26.trans (Go.Am.bif_f h33)
       refine AW.kp [5] [] ⟨[(5, sI ((est_r fuel) (List.getD (Pln.Kids p) 0 Pln.zero) stats))], []⟩ ?_
       refine AW.skip (AW.seq (AW.r1 hC [4] [] ⟨[(4, sI ((est_r fuel) (List.getD (Pln.Kids p) 0 Pln.zero) stats))], []⟩ ?_))
       exact AW.ret (AW.rI ((est_r fuel) (List.getD (Pln.Kids p) 0 Pln.zero) stats) e34)
   ·
    intro h35
    have h35q := (Go.Am.beq_neg h35)
    have e36 := e12.trans (Go.Am.bif_f h35)
    refine AW.r1 hC [1, 2, 5, 23, 56] [8] ⟨[(1, sD11 stats), (2, .ref 8 1 0), (5, sI ((est_r fuel) (List.getD (Pln.Kids p) 0 Pln.zero) stats)), (23, sI (Pln.Kind p)), (56, sB ((Pln.Kind p) == 5))], [(8, .box 1 [sI (Pln.Kind p), sI (Pln.Table p), sD9 (Pln.Exprs p), sD7 (Pln.Cols p), sD10 (Pln.Kids p)])]⟩ ?_
    refine AW.cd ((Pln.Kind p) == 5) ?_ ?_
    ·
     intro h37
     have h37q := (Go.Am.beq_pos h37)
     have e38 := e36.trans (Go.Am.bif_t h37)
     refine AW.seq (AW.d0 hC hM [2, 5, 6] [8] ⟨[(2, .ref 8 1 0), (5, sI ((est_r fuel) (List.getD (Pln.Kids p) 0 Pln.zero) stats)), (6, sI (((if 1000000000 < (((est_r fuel) (List.getD (Pln.Kids p) 0 Pln.zero) stats) * ((est_r fuel) (List.getD (Pln.Kids p) 1 Pln.zero) stats)) then 1000000000 else (((est_r fuel) (List.getD (Pln.Kids p) 0 Pln.zero) stats) * ((est_r fuel) (List.getD (Pln.Kids p) 1 Pln.zero) stats))) * (fixed (List.getD (Pln.Exprs p) 0 Xpr.zero))) / 1000))], [(8, .box 1 [sI (Pln.Kind p), sI (Pln.Table p), sD9 (Pln.Exprs p), sD7 (Pln.Cols p), sD10 (Pln.Kids p)])]⟩ [IX (1 : Int) ((List.length (Pln.Kids p) : Nat) : Int), ((∃ l, PSt stats l (List.getD (Pln.Kids p) 1 Pln.zero)) ∧ SizeOf.sizeOf (List.getD (Pln.Kids p) 1 Pln.zero) < fuel), R64 (((est_r fuel) (List.getD (Pln.Kids p) 0 Pln.zero) stats) * ((est_r fuel) (List.getD (Pln.Kids p) 1 Pln.zero) stats)), IX (0 : Int) ((List.length (Pln.Exprs p) : Nat) : Int), (∃ w, VXn w (List.getD (Pln.Exprs p) 0 Xpr.zero)), R64 ((if 1000000000 < (((est_r fuel) (List.getD (Pln.Kids p) 0 Pln.zero) stats) * ((est_r fuel) (List.getD (Pln.Kids p) 1 Pln.zero) stats)) then 1000000000 else (((est_r fuel) (List.getD (Pln.Kids p) 0 Pln.zero) stats) * ((est_r fuel) (List.getD (Pln.Kids p) 1 Pln.zero) stats))) * (fixed (List.getD (Pln.Exprs p) 0 Xpr.zero))), (0 ≤ ((if 1000000000 < (((est_r fuel) (List.getD (Pln.Kids p) 0 Pln.zero) stats) * ((est_r fuel) (List.getD (Pln.Kids p) 1 Pln.zero) stats)) then 1000000000 else (((est_r fuel) (List.getD (Pln.Kids p) 0 Pln.zero) stats) * ((est_r fuel) (List.getD (Pln.Kids p) 1 Pln.zero) stats))) * (fixed (List.getD (Pln.Exprs p) 0 Xpr.zero))) ∧ 0 < (1000 : Int))] ?_ ?_)
     ·
      refine ⟨?_, ?_, ?_, ?_, ?_, ?_, ?_, trivial⟩
      ·
       refine IX.of ?_
       omega
      ·
       exact ⟨⟨lv - 1, (hPS.kid (by omega)).2⟩, Nat.lt_of_lt_of_le (pkid_lt (by omega)) (Nat.le_of_lt_succ hpre.2)⟩
      ·
       refine R64.of ?_
       have k0 := (Nat.lt_of_lt_of_le (pkid_lt (t := p) (i := 0) (by omega)) (Nat.le_of_lt_succ hpre.2)); have a := est_b (hPS.kid (i := 0) (by omega)).2 k0; have fx := fixed_bb (List.getD (Pln.Exprs p) 0 Xpr.zero); first | (have m := le_mul3 a.1 fx; omega) | (have hse := hPS.sel (by omega) (by omega); have pb : 0 ≤ permille (List.getD (Pln.Exprs p) 0 Xpr.zero) (List.getD stats (Int.toNat (Pln.Table (List.getD (Pln.Kids p) 0 Pln.zero))) Sta.zero) ∧ permille (List.getD (Pln.Exprs p) 0 Xpr.zero) (List.getD stats (Int.toNat (Pln.Table (List.getD (Pln.Kids p) 0 Pln.zero))) Sta.zero) ≤ 1000 := permille_b hse.1 _ _ hse.2; have m := le_mul3 a.1 pb; omega) | (have k1 := (Nat.lt_of_lt_of_le (pkid_lt (t := p) (i := 1) (by omega)) (Nat.le_of_lt_succ hpre.2)); have b := est_b (hPS.kid (i := 1) (by omega)).2 k1; have m := le_mul a b; have mb := minB m.1; have mx := le_mul3 mb.1 fx; omega)
      ·
       refine IX.of ?_
       omega
      ·
       exact (hPS.vx (by omega)).2
      ·
       refine R64.of ?_
       have k0 := (Nat.lt_of_lt_of_le (pkid_lt (t := p) (i := 0) (by omega)) (Nat.le_of_lt_succ hpre.2)); have a := est_b (hPS.kid (i := 0) (by omega)).2 k0; have fx := fixed_bb (List.getD (Pln.Exprs p) 0 Xpr.zero); first | (have m := le_mul3 a.1 fx; omega) | (have hse := hPS.sel (by omega) (by omega); have pb : 0 ≤ permille (List.getD (Pln.Exprs p) 0 Xpr.zero) (List.getD stats (Int.toNat (Pln.Table (List.getD (Pln.Kids p) 0 Pln.zero))) Sta.zero) ∧ permille (List.getD (Pln.Exprs p) 0 Xpr.zero) (List.getD stats (Int.toNat (Pln.Table (List.getD (Pln.Kids p) 0 Pln.zero))) Sta.zero) ≤ 1000 := permille_b hse.1 _ _ hse.2; have m := le_mul3 a.1 pb; omega) | (have k1 := (Nat.lt_of_lt_of_le (pkid_lt (t := p) (i := 1) (by omega)) (Nat.le_of_lt_succ hpre.2)); have b := est_b (hPS.kid (i := 1) (by omega)).2 k1; have m := le_mul a b; have mb := minB m.1; have mx := le_mul3 mb.1 fx; omega)
      ·
       have k0 := (Nat.lt_of_lt_of_le (pkid_lt (t := p) (i := 0) (by omega)) (Nat.le_of_lt_succ hpre.2)); have a := est_b (hPS.kid (i := 0) (by omega)).2 k0; have fx := fixed_bb (List.getD (Pln.Exprs p) 0 Xpr.zero); first | (have m := le_mul3 a.1 fx; omega) | (have hse := hPS.sel (by omega) (by omega); have pb : 0 ≤ permille (List.getD (Pln.Exprs p) 0 Xpr.zero) (List.getD stats (Int.toNat (Pln.Table (List.getD (Pln.Kids p) 0 Pln.zero))) Sta.zero) ∧ permille (List.getD (Pln.Exprs p) 0 Xpr.zero) (List.getD stats (Int.toNat (Pln.Table (List.getD (Pln.Kids p) 0 Pln.zero))) Sta.zero) ≤ 1000 := permille_b hse.1 _ _ hse.2; have m := le_mul3 a.1 pb; omega) | (have k1 := (Nat.lt_of_lt_of_le (pkid_lt (t := p) (i := 1) (by omega)) (Nat.le_of_lt_succ hpre.2)); have b := est_b (hPS.kid (i := 1) (by omega)).2 k1; have m := le_mul a b; have mb := minB m.1; have mx := le_mul3 mb.1 fx; omega)
     refine AW.seq (AW.seq (AW.r1 hC [5, 6, 77] [] ⟨[(5, sI ((est_r fuel) (List.getD (Pln.Kids p) 0 Pln.zero) stats)), (6, sI (((if 1000000000 < (((est_r fuel) (List.getD (Pln.Kids p) 0 Pln.zero) stats) * ((est_r fuel) (List.getD (Pln.Kids p) 1 Pln.zero) stats)) then 1000000000 else (((est_r fuel) (List.getD (Pln.Kids p) 0 Pln.zero) stats) * ((est_r fuel) (List.getD (Pln.Kids p) 1 Pln.zero) stats))) * (fixed (List.getD (Pln.Exprs p) 0 Xpr.zero))) / 1000)), (77, sB ((Pln.Kind p) == 5))], []⟩ ?_))
     refine AW.cd ((Pln.Kind p) == 5) ?_ ?_
     ·
      intro h39
      have h39q := (Go.Am.beq_pos h39)
      have e40 := e38.trans (Go.Am.bif_t h39)
      refine AW.seq (AW.r1 hC [4] [] ⟨[(4, sI (if (((if 1000000000 < (((est_r fuel) (List.getD (Pln.Kids p) 0 Pln.zero) stats) * ((est_r fuel) (List.getD (Pln.Kids p) 1 Pln.zero) stats)) then 1000000000 else (((est_r fuel) (List.getD (Pln.Kids p) 0 Pln.zero) stats) * ((est_r fuel) (List.getD (Pln.Kids p) 1 Pln.zero) stats))) * (fixed (List.getD (Pln.Exprs p) 0 Xpr.zero))) / 1000) > ((est_r fuel) (List.getD (Pln.Kids p) 0 Pln.zero) stats) then (((if 1000000000 < (((est_r fuel) (List.getD (Pln.Kids p) 0 Pln.zero) stats) * ((est_r fuel) (List.getD (Pln.Kids p) 1 Pln.zero) stats)) then 1000000000 else (((est_r fuel) (List.getD (Pln.Kids p) 0 Pln.zero) stats) * ((est_r fuel) (List.getD (Pln.Kids p) 1 Pln.zero) stats))) * (fixed (List.getD (Pln.Exprs p) 0 Xpr.zero))) / 1000) else ((est_r fuel) (List.getD (Pln.Kids p) 0 Pln.zero) stats)))], []⟩ ?_)
      exact AW.ret (AW.rI (if (((if 1000000000 < (((est_r fuel) (List.getD (Pln.Kids p) 0 Pln.zero) stats) * ((est_r fuel) (List.getD (Pln.Kids p) 1 Pln.zero) stats)) then 1000000000 else (((est_r fuel) (List.getD (Pln.Kids p) 0 Pln.zero) stats) * ((est_r fuel) (List.getD (Pln.Kids p) 1 Pln.zero) stats))) * (fixed (List.getD (Pln.Exprs p) 0 Xpr.zero))) / 1000) > ((est_r fuel) (List.getD (Pln.Kids p) 0 Pln.zero) stats) then (((if 1000000000 < (((est_r fuel) (List.getD (Pln.Kids p) 0 Pln.zero) stats) * ((est_r fuel) (List.getD (Pln.Kids p) 1 Pln.zero) stats)) then 1000000000 else (((est_r fuel) (List.getD (Pln.Kids p) 0 Pln.zero) stats) * ((est_r fuel) (List.getD (Pln.Kids p) 1 Pln.zero) stats))) * (fixed (List.getD (Pln.Exprs p) 0 Xpr.zero))) / 1000) else ((est_r fuel) (List.getD (Pln.Kids p) 0 Pln.zero) stats)) e40)
     ·
      intro h41
      have h41q := (Go.Am.beq_neg h41)
      have e42 := e38.trans (Go.Am.bif_f h41)
      refine AW.kp [6] [] ⟨[(6, sI (((if 1000000000 < (((est_r fuel) (List.getD (Pln.Kids p) 0 Pln.zero) stats) * ((est_r fuel) (List.getD (Pln.Kids p) 1 Pln.zero) stats)) then 1000000000 else (((est_r fuel) (List.getD (Pln.Kids p) 0 Pln.zero) stats) * ((est_r fuel) (List.getD (Pln.Kids p) 1 Pln.zero) stats))) * (fixed (List.getD (Pln.Exprs p) 0 Xpr.zero))) / 1000))], []⟩ ?_
      refine AW.skip (AW.seq (AW.r1 hC [4] [] ⟨[(4, sI (((if 1000000000 < (((est_r fuel) (List.getD (Pln.Kids p) 0 Pln.zero) stats) * ((est_r fuel) (List.getD (Pln.Kids p) 1 Pln.zero) stats)) then 1000000000 else (((est_r fuel) (List.getD (Pln.Kids p) 0 Pln.zero) stats) * ((est_r fuel) (List.getD (Pln.Kids p) 1 Pln.zero) stats))) * (fixed (List.getD (Pln.Exprs p) 0 Xpr.zero))) / 1000))], []⟩ ?_))
      exact AW.ret (AW.rI (((if 1000000000 < (((est_r fuel) (List.getD (Pln.Kids p) 0 Pln.zero) stats) * ((est_r fuel) (List.getD (Pln.Kids p) 1 Pln.zero) stats)) then 1000000000 else (((est_r fuel) (List.getD (Pln.Kids p) 0 Pln.zero) stats) * ((est_r fuel) (List.getD (Pln.Kids p) 1 Pln.zero) stats))) * (fixed (List.getD (Pln.Exprs p) 0 Xpr.zero))) / 1000) e42)
    ·
     intro h43
     have h43q := (Go.Am.beq_neg h43)
     have e44 := e36.trans (Go.Am.bif_f h43)
     refine AW.seq (AW.r1 hC [1, 2, 5, 23, 82] [8] ⟨[(1, sD11 stats), (2, .ref 8 1 0), (5, sI ((est_r fuel) (List.getD (Pln.Kids p) 0 Pln.zero) stats)), (23, sI (Pln.Kind p)), (82, sB ((Pln.Kind p) == 6))], [(8, .box 1 [sI (Pln.Kind p), sI (Pln.Table p), sD9 (Pln.Exprs p), sD7 (Pln.Cols p), sD10 (Pln.Kids p)])]⟩ ?_)
     refine AW.cd ((Pln.Kind p) == 6) ?_ ?_
     ·
      intro h45
      have h45q := (Go.Am.beq_pos h45)
      have e46 := e44.trans (Go.Am.bif_t h45)
      refine AW.seq (AW.r0 hC [4] [] ⟨[(4, sI (if 1000000000 < (((est_r fuel) (List.getD (Pln.Kids p) 0 Pln.zero) stats) + ((est_r fuel) (List.getD (Pln.Kids p) 1 Pln.zero) stats)) then 1000000000 else (((est_r fuel) (List.getD (Pln.Kids p) 0 Pln.zero) stats) + ((est_r fuel) (List.getD (Pln.Kids p) 1 Pln.zero) stats))))], []⟩ [IX (1 : Int) ((List.length (Pln.Kids p) : Nat) : Int), ((∃ l, PSt stats l (List.getD (Pln.Kids p) 1 Pln.zero)) ∧ SizeOf.sizeOf (List.getD (Pln.Kids p) 1 Pln.zero) < fuel), R64 (((est_r fuel) (List.getD (Pln.Kids p) 0 Pln.zero) stats) + ((est_r fuel) (List.getD (Pln.Kids p) 1 Pln.zero) stats))] ?_ ?_)
      ·
       refine ⟨?_, ?_, ?_, trivial⟩
       ·
        refine IX.of ?_
        omega
       ·
        exact ⟨⟨lv - 1, (hPS.kid (by omega)).2⟩, Nat.lt_of_lt_of_le (pkid_lt (by omega)) (Nat.le_of_lt_succ hpre.2)⟩
       ·
        refine R64.of ?_
        have k0 := (Nat.lt_of_lt_of_le (pkid_lt (t := p) (i := 0) (by omega)) (Nat.le_of_lt_succ hpre.2)); have a := est_b (hPS.kid (i := 0) (by omega)).2 k0; have fx := fixed_bb (List.getD (Pln.Exprs p) 0 Xpr.zero); first | (have m := le_mul3 a.1 fx; omega) | (have hse := hPS.sel (by omega) (by omega); have pb : 0 ≤ permille (List.getD (Pln.Exprs p) 0 Xpr.zero) (List.getD stats (Int.toNat (Pln.Table (List.getD (Pln.Kids p) 0 Pln.zero))) Sta.zero) ∧ permille (List.getD (Pln.Exprs p) 0 Xpr.zero) (List.getD stats (Int.toNat (Pln.Table (List.getD (Pln.Kids p) 0 Pln.zero))) Sta.zero) ≤ 1000 := permille_b hse.1 _ _ hse.2; have m := le_mul3 a.1 pb; omega) | (have k1 := (Nat.lt_of_lt_of_le (pkid_lt (t := p) (i := 1) (by omega)) (Nat.le_of_lt_succ hpre.2)); have b := est_b (hPS.kid (i := 1) (by omega)).2 k1; have m := le_mul a b; have mb := minB m.1; have mx := le_mul3 mb.1 fx; omega)
      exact AW.ret (AW.rI (if 1000000000 < (((est_r fuel) (List.getD (Pln.Kids p) 0 Pln.zero) stats) + ((est_r fuel) (List.getD (Pln.Kids p) 1 Pln.zero) stats)) then 1000000000 else (((est_r fuel) (List.getD (Pln.Kids p) 0 Pln.zero) stats) + ((est_r fuel) (List.getD (Pln.Kids p) 1 Pln.zero) stats))) e46)
     ·
      intro h47
      have h47q := (Go.Am.beq_neg h47)
      have e48 := e44.trans (Go.Am.bif_f h47)
      refine AW.seq (AW.r1 hC [2, 5, 93] [8] ⟨[(2, .ref 8 1 0), (5, sI ((est_r fuel) (List.getD (Pln.Kids p) 0 Pln.zero) stats)), (93, sB ((Pln.Kind p) == 8))], [(8, .box 1 [sI (Pln.Kind p), sI (Pln.Table p), sD9 (Pln.Exprs p), sD7 (Pln.Cols p), sD10 (Pln.Kids p)])]⟩ ?_)
      refine AW.cd ((Pln.Kind p) == 8) ?_ ?_
      ·
       intro h49
       have h49q := (Go.Am.beq_pos h49)
       have e50 := e48.trans (Go.Am.bif_t h49)
       refine AW.seq (AW.r1 hC [5, 98] [] ⟨[(5, sI ((est_r fuel) (List.getD (Pln.Kids p) 0 Pln.zero) stats)), (98, sB (((List.length (Pln.Cols p) : Nat) : Int) == 0))], []⟩ ?_)
       refine AW.cd (((List.length (Pln.Cols p) : Nat) : Int) == 0) ?_ ?_
       ·
        intro h51
        have h51q := (Go.Am.beq_pos h51)
        have e52 := e50.trans (Go.Am.bif_t h51)
        refine AW.seq (AW.r1 hC [4] [] ⟨[(4, sI (if 1 < ((est_r fuel) (List.getD (Pln.Kids p) 0 Pln.zero) stats) then 1 else ((est_r fuel) (List.getD (Pln.Kids p) 0 Pln.zero) stats)))], []⟩ ?_)
        exact AW.ret (AW.rI (if 1 < ((est_r fuel) (List.getD (Pln.Kids p) 0 Pln.zero) stats) then 1 else ((est_r fuel) (List.getD (Pln.Kids p) 0 Pln.zero) stats)) e52)
       ·
        intro h53
        have h53q := (Go.Am.beq_neg h53)
        have e54 := e50.trans (Go.Am.bif_f h53)
        refine AW.kp [5] [] ⟨[(5, sI ((est_r fuel) (List.getD (Pln.Kids p) 0 Pln.zero) stats))], []⟩ ?_
        refine AW.skip (AW.seq (AW.r1 hC [4] [] ⟨[(4, sI ((est_r fuel) (List.getD (Pln.Kids p) 0 Pln.zero) stats))], []⟩ ?_))
        exact AW.ret (AW.rI ((est_r fuel) (List.getD (Pln.Kids p) 0 Pln.zero) stats) e54)
      ·
       intro h55
       have h55q := (Go.Am.beq_neg h55)
       have e56 := e48.trans (Go.Am.bif_f h55)
       refine AW.kp [5] [] ⟨[(5, sI ((est_r fuel) (List.getD (Pln.Kids p) 0 Pln.zero) stats))], []⟩ ?_
       refine AW.skip (AW.seq (AW.r1 hC [4] [] ⟨[(4, sI ((est_r fuel) (List.getD (Pln.Kids p) 0 Pln.zero) stats))], []⟩ ?_))
       exact AW.ret (AW.rI ((est_r fuel) (List.getD (Pln.Kids p) 0 Pln.zero) stats) e56)

theorem est_fu : AllTV (est_sp.ps.map PK.ty) (fun tvs => est_sp.pre tvs → ∃ k, (est_spn k).pre tvs ∧ (est_spn k).fn tvs = est_sp.fn tvs ∧ (est_spn k).bx tvs = est_sp.bx tvs) :=
 (fun (p : Pln) (stats : List Sta) h => ⟨SizeOf.sizeOf p + 1, (show (∃ l, PSt stats l p) ∧ SizeOf.sizeOf p < SizeOf.sizeOf p + 1 from ⟨h, Nat.lt_succ_self _⟩), (show (est_spn (SizeOf.sizeOf p + 1)).fn [⟨(.named 2), (p : Pln)⟩, ⟨(.slice (.named 3)), (stats : List Sta)⟩] = ([⟨(.int .i64), (est_r (SizeOf.sizeOf p + 1) p stats)⟩] : List TV) from by kernel_rfl).trans (show ([⟨(.int .i64), (est_r (SizeOf.sizeOf p + 1) p stats)⟩] : List TV) = est_sp.fn [⟨(.named 2), (p : Pln)⟩, ⟨(.slice (.named 3)), (stats : List Sta)⟩] from by kernel_rfl), by kernel_rfl⟩)

theorem est_ok : FnOK Try.prog 83 est_sp := FnOK.of_fuel est_okn (fun _ => rfl) (fun _ => rfl) (AllTV.get est_fu)

end
end Go.Proofs.Ytodcdgolcbdkgaa
