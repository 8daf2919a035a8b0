/-
  A part of the proof of this claim (ApTI): what functions of the program compute, and plain facts of that. No conditions.
-/
import Derived.Test.YtodcdgolcbdkgaaApTH
set_option linter.all false
namespace Go.Proofs.Ytodcdgolcbdkgaa
open Go Go.Am
open Go.Am.AW (seq r1U ret kpU cdE r0U r1 meet block rS bk exit lpB r0 d0U)
open List (length getD set)
noncomputable section

def nul_l0 (self : Pln → (List (List Bool)) → (List Bool)) (p : Pln) (fl : List (List Bool)) : Nat → Nat → (List Bool) → (List Bool)
 | 0, i, out => out
 | k + 1, i, out => (bif (decide ((i : Int) < (length (self (getD (Pln.Kids p) 0 Pln.zero) fl) : Int))) then (nul_l0 self p fl k (i + 1) (out ++ ([(bif (getD (self (getD (Pln.Kids p) 0 Pln.zero) fl) i false) then ((bits .and .i64 (outcomes (getD (Pln.Exprs p) 0 Xpr.zero) (set (statesOf (self (getD (Pln.Kids p) 0 Pln.zero) fl)) i 4)) 2) != 0) else false)] : List Bool))) else out)

def nul_l1 (self : Pln → (List (List Bool)) → (List Bool)) (p : Pln) (fl : List (List Bool)) : Nat → Nat → (List Bool) → (List Bool)
 | 0, i, out => out
 | k + 1, i, out => (bif (decide ((i : Int) < (length (Pln.Exprs p) : Int))) then (nul_l1 self p fl k (i + 1) (out ++ ([((bits .and .i64 (outcomes (getD (Pln.Exprs p) i Xpr.zero) (statesOf (self (getD (Pln.Kids p) 0 Pln.zero) fl))) 4) != 0)] : List Bool))) else out)

def nul_l2 (self : Pln → (List (List Bool)) → (List Bool)) (p : Pln) (fl : List (List Bool)) : Nat → Nat → (List Bool) → (List Bool)
 | 0, i, out => out
 | k + 1, i, out => (bif (decide ((i : Int) < (length (self (getD (Pln.Kids p) 1 Pln.zero) fl) : Int))) then (nul_l2 self p fl k (i + 1) (out ++ ([(bif (getD (self (getD (Pln.Kids p) 1 Pln.zero) fl) i false) then true else ((Pln.Kind p) == 5))] : List Bool))) else out)

def nul_l3 (self : Pln → (List (List Bool)) → (List Bool)) (p : Pln) (fl : List (List Bool)) : Nat → Nat → (List Bool) → (List Bool)
 | 0, i, out => out
 | k + 1, i, out => (bif (decide ((i : Int) < (length (self (getD (Pln.Kids p) 0 Pln.zero) fl) : Int))) then (nul_l3 self p fl k (i + 1) (out ++ ([(bif (getD (self (getD (Pln.Kids p) 0 Pln.zero) fl) i false) then true else (getD (self (getD (Pln.Kids p) 1 Pln.zero) fl) i false))] : List Bool))) else out)

def nul_l4 (self : Pln → (List (List Bool)) → (List Bool)) (p : Pln) (fl : List (List Bool)) : Nat → Nat → (List Bool) → (List Bool)
 | 0, i, out => out
 | k + 1, i, out => (bif (decide ((i : Int) < (length (Pln.Cols p) : Int))) then (nul_l4 self p fl k (i + 1) (out ++ ([(getD (self (getD (Pln.Kids p) 0 Pln.zero) fl) (Int.toNat (getD (Pln.Cols p) i 0)) false)] : List Bool))) else out)

def nul_r : Nat → Pln → (List (List Bool)) → (List Bool)
 | 0, p, fl => []
 | fuel + 1, p, fl => (bif ((Pln.Kind p) == 1) then (([] : List Bool) ++ (getD fl (Int.toNat (Pln.Table p)) [])) else (bif ((Pln.Kind p) == 2) then (andThen (nul_l0 (nul_r fuel) p fl ((length ((nul_r fuel) (getD (Pln.Kids p) 0 Pln.zero) fl)) - 0 + 1) 0 ([] : List Bool)) (fun z => (fun (out : List Bool) => out) z)) else (bif ((Pln.Kind p) == 3) then (andThen (nul_l1 (nul_r fuel) p fl ((length (Pln.Exprs p)) - 0 + 1) 0 ([] : List Bool)) (fun z => (fun (out : List Bool) => out) z)) else (bif ((Pln.Kind p) == 4) then (bif ((Pln.Kind p) == 4) then (andThen (nul_l2 (nul_r fuel) p fl ((length ((nul_r fuel) (getD (Pln.Kids p) 1 Pln.zero) fl)) - 0 + 1) 0 (([] : List Bool) ++ ((nul_r fuel) (getD (Pln.Kids p) 0 Pln.zero) fl))) (fun z => (fun (out : List Bool) => out) z)) else (bif ((Pln.Kind p) == 6) then (andThen (nul_l3 (nul_r fuel) p fl ((length ((nul_r fuel) (getD (Pln.Kids p) 0 Pln.zero) fl)) - 0 + 1) 0 ([] : List Bool)) (fun z => (fun (out : List Bool) => out) z)) else (bif ((Pln.Kind p) == 8) then (andThen (nul_l4 (nul_r fuel) p fl ((length (Pln.Cols p)) - 0 + 1) 0 ([] : List Bool)) (fun z => (fun (out : List Bool) => (out ++ ([false] : List Bool))) z)) else ((nul_r fuel) (getD (Pln.Kids p) 0 Pln.zero) fl)))) else (bif ((Pln.Kind p) == 5) then (andThen (nul_l2 (nul_r fuel) p fl ((length ((nul_r fuel) (getD (Pln.Kids p) 1 Pln.zero) fl)) - 0 + 1) 0 (([] : List Bool) ++ ((nul_r fuel) (getD (Pln.Kids p) 0 Pln.zero) fl))) (fun z => (fun (out : List Bool) => out) z)) else (bif ((Pln.Kind p) == 6) then (andThen (nul_l3 (nul_r fuel) p fl ((length ((nul_r fuel) (getD (Pln.Kids p) 0 Pln.zero) fl)) - 0 + 1) 0 ([] : List Bool)) (fun z => (fun (out : List Bool) => out) z)) else (bif ((Pln.Kind p) == 8) then (andThen (nul_l4 (nul_r fuel) p fl ((length (Pln.Cols p)) - 0 + 1) 0 ([] : List Bool)) (fun z => (fun (out : List Bool) => (out ++ ([false] : List Bool))) z)) else ((nul_r fuel) (getD (Pln.Kids p) 0 Pln.zero) fl))))))))

def nul (p : Pln) (fl : List (List Bool)) : (List Bool) := nul_r (SizeOf.sizeOf p + 1) p fl

def nul_spn (fuel : Nat) : FnSpec := mkSpec [.val (.named 2), .val (.slice (.slice .bool))] [.own .bool] (fun (p : Pln) (fl : List (List Bool)) => (∃ ws, NPl ws fl p) ∧ SizeOf.sizeOf p < fuel) (fun (p : Pln) (fl : List (List Bool)) => [⟨(.slice .bool), (nul_r fuel p fl)⟩])

def nul_sp : FnSpec := mkSpec [.val (.named 2), .val (.slice (.slice .bool))] [.own .bool] (fun (p : Pln) (fl : List (List Bool)) => ∃ ws, NPl ws fl p) (fun (p : Pln) (fl : List (List Bool)) => [⟨(.slice .bool), (nul p fl)⟩])

theorem nul_eq : ∀ (f : Nat) (p : Pln) (fl : List (List Bool)) (ws : List Int), NPl ws fl p → SizeOf.sizeOf p < f → nul_r f p fl = nuP f p fl := by
 intro f
 induction f with
 | zero => intro p fl ws _ h; omega
 | succ f ih =>
  intro p fl ws hN hs; obtain ⟨hO, hT, -⟩ := hN.1.pvn.of; have hpc := parts2 (Pln.Kind p); have hOk := hO.kids; have hOc := hO.kind; have hOe := hO.exprs; have hk : ∀ i, i < p.Kids.length → nul_r f (p.Kids.getD i Pln.zero) fl = nuP f (p.Kids.getD i Pln.zero) fl := fun i hi => ih _ _ _ (hN.kid hi) (by have := pkid_lt hi; omega); have hl : ∀ i, i < p.Kids.length → (length (nuP f (p.Kids.getD i Pln.zero) fl) : Int) = widthOf (p.Kids.getD i Pln.zero) ws := fun i hi => nuP_len f _ _ _ (hN.kid hi) (by have := pkid_lt hi; omega); unfold nul_r nuP andThen; by_cases h1 : p.Kind = 1
  · rw [if_pos h1, show (p.Kind == 1) = true from beq_iff_eq.2 h1, cond_true, List.nil_append]
  ·
   rw [if_neg h1, show (p.Kind == 1) = false from beq_false_of_ne h1, cond_false]; by_cases h2 : p.Kind = 2
   ·
    rw [if_pos h2, show (p.Kind == 2) = true from beq_iff_eq.2 h2, cond_true]
    rw [app_loop (nul_l0 (nul_r f) p fl) (length (nul_r f (p.Kids.getD 0 Pln.zero) fl)) (fun i => bif (nuP f (p.Kids.getD 0 Pln.zero) fl).getD i false then (bits .and .i64 (ioutcomes (p.Exprs.getD 0 Xpr.zero) ((st (nuP f (p.Kids.getD 0 Pln.zero) fl)).set i 4)) 2 != 0) else false)
     (fun k i out hi => by
      show (bif decide ((i : Int) < (length (nul_r f (p.Kids.getD 0 Pln.zero) fl) : Int)) then _ else _) = _
      rw [lt_dec hi, cond_true, statesOf_eq, hk 0 (by omega), outcomes_same (st_vx4 (n := 8) (by rw [hl 0 (by omega)]; exact (ValidExpr_iff.1 (allv_iff.1 (hN.1.exprs.1 (.inl h2)) 0 (by have := hOe (by omega); omega))).2))])
     (fun k i out hi => by
      show (bif decide ((i : Int) < (length (nul_r f (p.Kids.getD 0 Pln.zero) fl) : Int)) then _ else _) = _
      rw [ge_dec hi, cond_false]) _ _ _ (by omega)]
    rw [hk 0 (by omega)]; rfl
   ·
    rw [if_neg h2, show (p.Kind == 2) = false from beq_false_of_ne h2, cond_false]; by_cases h3 : p.Kind = 3
    ·
     rw [if_pos h3, show (p.Kind == 3) = true from beq_iff_eq.2 h3, cond_true]
     rw [app_loop (nul_l1 (nul_r f) p fl) p.Exprs.length (fun i => bits .and .i64 (ioutcomes (p.Exprs.getD i Xpr.zero) (st (nuP f (p.Kids.getD 0 Pln.zero) fl))) 4 != 0)
      (fun k i out hi => by
       show (bif decide ((i : Int) < (length p.Exprs : Int)) then _ else _) = _
       rw [lt_dec hi, cond_true, statesOf_eq, hk 0 (by omega), outcomes_same (st_vx (n := 8) (by rw [hl 0 (by omega)]; exact (ValidExpr_iff.1 (allv_iff.1 (hN.1.exprs.1 (.inr h3)) i hi)).2))])
      (fun k i out hi => by
       show (bif decide ((i : Int) < (length p.Exprs : Int)) then _ else _) = _
       rw [ge_dec hi, cond_false]) _ _ _ (by omega)]
     rfl
    ·
     rw [if_neg h3, show (p.Kind == 3) = false from beq_false_of_ne h3, cond_false]
     have lj : ∀ b : Bool, (p.Kind == 5) = b → ∀ out : List Bool, nul_l2 (nul_r f) p fl (length (nul_r f (p.Kids.getD 1 Pln.zero) fl) - 0 + 1) 0 out = out ++ (List.range' 0 (length (nul_r f (p.Kids.getD 1 Pln.zero) fl) - 0)).map (fun i => bif getD (nul_r f (p.Kids.getD 1 Pln.zero) fl) i false then true else b) := fun b hb out =>
      app_loop (nul_l2 (nul_r f) p fl) (length (nul_r f (p.Kids.getD 1 Pln.zero) fl)) (fun i => bif getD (nul_r f (p.Kids.getD 1 Pln.zero) fl) i false then true else b)
       (fun k i out hi => by
        show (bif decide ((i : Int) < (length (nul_r f (p.Kids.getD 1 Pln.zero) fl) : Int)) then _ else _) = _
        rw [lt_dec hi, cond_true, hb])
       (fun k i out hi => by
        show (bif decide ((i : Int) < (length (nul_r f (p.Kids.getD 1 Pln.zero) fl) : Int)) then _ else _) = _
        rw [ge_dec hi, cond_false]) _ _ _ (by omega)
     by_cases h4 : p.Kind = 4
     · rw [if_pos h4, show (p.Kind == 4) = true from beq_iff_eq.2 h4, cond_true, cond_true, lj false (beq_false_of_ne (by omega)), List.nil_append, hk 0 (by omega), hk 1 (by omega)]; show _ ++ _ = _ ++ _; congr 1; generalize nuP f (p.Kids.getD 1 Pln.zero) fl = l; refine List.ext_getElem (by simp) fun i h1 h2 => ?_; simp [List.getD_eq_getElem?_getD, List.getElem?_eq_getElem h2]
     ·
      rw [if_neg h4, show (p.Kind == 4) = false from beq_false_of_ne h4, cond_false]; by_cases h5 : p.Kind = 5
      · rw [if_pos h5, show (p.Kind == 5) = true from beq_iff_eq.2 h5, cond_true, lj true (beq_iff_eq.2 h5), List.nil_append, hk 0 (by omega), hk 1 (by omega)]; show _ ++ _ = _ ++ _; congr 1; refine List.map_congr_left fun i _ => ?_; cases (nuP f (p.Kids.getD 1 Pln.zero) fl).getD i false <;> rfl
      ·
       rw [if_neg h5, show (p.Kind == 5) = false from beq_false_of_ne h5, cond_false]; by_cases h6 : p.Kind = 6
       ·
        rw [if_pos h6, show (p.Kind == 6) = true from beq_iff_eq.2 h6, cond_true]
        rw [app_loop (nul_l3 (nul_r f) p fl) (length (nul_r f (p.Kids.getD 0 Pln.zero) fl)) (fun i => bif getD (nul_r f (p.Kids.getD 0 Pln.zero) fl) i false then true else getD (nul_r f (p.Kids.getD 1 Pln.zero) fl) i false)
         (fun k i out hi => by
          show (bif decide ((i : Int) < (length (nul_r f (p.Kids.getD 0 Pln.zero) fl) : Int)) then _ else _) = _
          rw [lt_dec hi, cond_true])
         (fun k i out hi => by
          show (bif decide ((i : Int) < (length (nul_r f (p.Kids.getD 0 Pln.zero) fl) : Int)) then _ else _) = _
          rw [ge_dec hi, cond_false]) _ _ _ (by omega)]
        rw [hk 0 (by omega), hk 1 (by omega)]; rfl
       ·
        rw [if_neg h6, show (p.Kind == 6) = false from beq_false_of_ne h6, cond_false]; by_cases h8 : p.Kind = 8
        ·
         rw [if_pos h8, show (p.Kind == 8) = true from beq_iff_eq.2 h8, cond_true]
         rw [app_loop (nul_l4 (nul_r f) p fl) p.Cols.length (fun i => (nuP f (p.Kids.getD 0 Pln.zero) fl).getD (Int.toNat (p.Cols.getD i 0)) false)
          (fun k i out hi => by
           show (bif decide ((i : Int) < (length p.Cols : Int)) then _ else _) = _
           rw [lt_dec hi, cond_true, hk 0 (by omega)])
          (fun k i out hi => by
           show (bif decide ((i : Int) < (length p.Cols : Int)) then _ else _) = _
           rw [ge_dec hi, cond_false]) _ _ _ (by omega)]
         rfl
        · rw [if_neg h8, show (p.Kind == 8) = false from beq_false_of_ne h8, cond_false, hk 0 (by omega)]

theorem nul_len {f : Nat} {p : Pln} {fl : List (List Bool)} {ws : List Int} (h : NPl ws fl p) (hs : SizeOf.sizeOf p < f) : (length (nul_r f p fl) : Int) = widthOf p ws := by
 rw [nul_eq f p fl ws h hs]; exact nuP_len f p fl ws h hs

theorem nul_okn (fuel : Nat) : FnOK Try.prog 79 (nul_spn fuel) := by
 induction fuel with
 | zero => exact FnOK.never Try.func79 (by kernel_rfl) rfl (fun _ _ h => absurd h.2 (Nat.not_lt_zero _))
 | succ fuel ih => ?_
 have hC : CtxOK Try.prog (mkCtx tyL [(79, (nul_spn fuel)), (104, outcomes_sp), (113, statesOf_sp)]) := CtxOK.cons ih (CtxOK.cons outcomes_ok (CtxOK.cons statesOf_ok (CtxOK.nil tyOK))); have hM : Try.prog.follows .mixedOrders = true := Try.checked.mixed; refine FnOK.of_body Try.func79 (by kernel_rfl) rfl (C := (mkCtx tyL [(79, (nul_spn fuel)), (104, outcomes_sp), (113, statesOf_sp)])) hC.ty (by kernel_rfl) ?_; intro (p : Pln) (fl : List (List Bool)) hwf hpre E; have hpre : (∃ ws, NPl ws fl p) ∧ SizeOf.sizeOf p < fuel + 1 := hpre; have hw_p : Wf ⟨(.named 2), (p : Pln)⟩ := hwf _ (List.Mem.head _); obtain ⟨hr_p_Kind, hr_p_Table, hl_p_Exprs, hl_p_Cols, hl_p_Kids⟩ := Pln.wfl hw_p; have hw_fl : Wf ⟨(.slice (.slice .bool)), (fl : List (List Bool))⟩ := hwf _ (List.Mem.tail _ (List.Mem.head _)); have hl_fl : (length fl : Int) ≤ 9223372036854775807 := hw_fl.len; obtain ⟨ws, hN⟩ := hpre.1; obtain ⟨hO, hT, -⟩ := hN.1.pvn.of; have hpc := parts2 (Pln.Kind p); have hOk := hO.kids; have hOc := hO.kind; have hFl := hN.2.1; have hb0 := widthOf_b (getD (Pln.Kids p) 0 Pln.zero) ws; have hb1 := widthOf_b (getD (Pln.Kids p) 1 Pln.zero) ws; have hs0 := hpre.2; have hk0 : ∀ _ : Unit, 0 < length (Pln.Kids p) → (length (nul_r fuel (getD (Pln.Kids p) 0 Pln.zero) fl) : Int) = widthOf (getD (Pln.Kids p) 0 Pln.zero) ws := fun _ hi => nul_len (hN.kid hi) (by have := pkid_lt hi; omega); have hk1 : ∀ _ : Unit, 1 < length (Pln.Kids p) → (length (nul_r fuel (getD (Pln.Kids p) 1 Pln.zero) fl) : Int) = widthOf (getD (Pln.Kids p) 1 Pln.zero) ws := fun _ hi => nul_len (hN.kid hi) (by have := pkid_lt hi; omega); have hOe := hO.exprs; have e0 : nul_r (fuel + 1) p fl = nul_r (fuel + 1) p fl := rfl; refine seq (r1U hC [1, 2] [8] [(2, .ref 8 1 0)] [(8, .box 1 [sI (Pln.Kind p), sI (Pln.Table p), sD9 (Pln.Exprs p), sD7 (Pln.Cols p), sD10 (Pln.Kids p)])] ?_); refine seq (r1U hC [1, 2, 5] [8, 60] [(5, .arr 60 1)] [(60, .arr 1 .bool (([] : List Bool) : List Bool))] ?_); refine seq (seq (r1U hC [1, 2, 5, 18] [8, 60] [(18, sB ((Pln.Kind p) == 1))] [] ?_)); refine cdE e0 ?_ ?_
 ·
  intro h1q e2; refine seq (r0 hC [4] [60] ⟨[(4, .arr 60 1)], [(60, .arr 1 .bool ((([] : List Bool) ++ (getD fl (Int.toNat (Pln.Table p)) [])) : List Bool))]⟩ [IX (Pln.Table p) (length fl : Int), (0 + (length (getD fl (Int.toNat (Pln.Table p)) []) : Int) ≤ 4294967296)] ?_ ?_)
  ·
   exact ⟨IX.of (by omega), (by have ht := hT (by omega); have h6 := hN.2.2 (Int.toNat (Pln.Table p)) (by omega); have hw := widthOf_b p ws; rw [hN.1.scan (by omega)] at hw; omega), trivial⟩
  exact ret (rS (.slice .bool) e2)
 ·
  intro h3q e4; refine kpU [1, 2, 5] [8, 60] [] [] ?_; refine AW.skip (seq (r0U hC [1, 2, 5, 6] [8, 60, 124] [(6, .arr 124 1)] [(124, .arr 1 .bool (((nul_r fuel) (getD (Pln.Kids p) 0 Pln.zero) fl) : List Bool))] [IX (0 : Int) (length (Pln.Kids p) : Int), ((∃ ws, NPl ws fl (getD (Pln.Kids p) 0 Pln.zero)) ∧ SizeOf.sizeOf (getD (Pln.Kids p) 0 Pln.zero) < fuel)] ?_ ?_))
  ·
   exact ⟨IX.of (by omega), (⟨⟨ws, hN.kid (by omega)⟩, Nat.lt_of_lt_of_le (pkid_lt (by omega)) (Nat.le_of_lt_succ hpre.2)⟩), trivial⟩
  refine seq (seq (r1U hC [1, 2, 5, 6, 33] [8, 60, 124] [(33, sI (Pln.Kind p))] [] ?_)); refine block (seq (r1U hC [1, 2, 5, 6, 33, 34] [8, 60, 124] [(34, sB ((Pln.Kind p) == 2))] [] ?_)); refine cdE e4 ?_ ?_
  ·
   intro h5q e6; refine seq (seq (r1U hC [2, 5, 6, 7] [8, 60, 124] [(7, sI 0)] [] ?_)); refine lpB (ζ := (List Bool)) (fun x => ⟨[(5, .arr 60 1)], [(60, .arr 1 .bool (x : List Bool))]⟩) (fun x => True) (fun x => x) (α := Nat × (List Bool)) (fun x => ⟨[(2, .ref 8 1 0), (5, .arr 60 1), (6, .arr 124 1), (7, sI ((x.1 : Nat) : Int))], [(8, .box 1 [sI (Pln.Kind p), sI (Pln.Table p), sD9 (Pln.Exprs p), sD7 (Pln.Cols p), sD10 (Pln.Kids p)]), (60, .arr 1 .bool (x.2 : List Bool)), (124, .arr 1 .bool (((nul_r fuel) (getD (Pln.Kids p) 0 Pln.zero) fl) : List Bool))]⟩) (fun x => length x.2 = x.1 ∧ x.1 ≤ length (nul_r fuel (getD (Pln.Kids p) 0 Pln.zero) fl)) (fun x => (length ((nul_r fuel) (getD (Pln.Kids p) 0 Pln.zero) fl)) - x.1) (fun k x => nul_l0 (nul_r fuel) p fl k x.1 x.2) (0, ([] : List Bool)) (by kernel_rfl) ?_ ?_ ?_
   · refine ⟨?_, ?_⟩ <;> first | omega | simp
   ·
    intro x k21q hI0 hk19 e20; obtain ⟨i, out⟩ := x; replace hI0 : length out = i ∧ i ≤ length (nul_r fuel (getD (Pln.Kids p) 0 Pln.zero) fl) := hI0; refine seq (seq (r1U hC [2, 5, 6, 7, 39] [8, 60, 124] [(39, sB (decide ((i : Int) < (length ((nul_r fuel) (getD (Pln.Kids p) 0 Pln.zero) fl) : Int))))] [] ?_)); refine cdE e20 ?_ ?_
    ·
     intro h22q e23; refine kpU [2, 5, 6, 7] [8, 60, 124] [] [] ?_; refine AW.skip (seq (block (seq (r0U hC [2, 5, 6, 7, 8] [8, 60, 124, 172] [(8, .arr 172 1)] [(172, .arr 1 (.int .i64) ((statesOf ((nul_r fuel) (getD (Pln.Kids p) 0 Pln.zero) fl)) : List Int))] [(length ((nul_r fuel) (getD (Pln.Kids p) 0 Pln.zero) fl) ≤ 6)] ?_ ?_))))
     ·
      exact ⟨(by (have a0 := hk0 () (by omega); omega)), trivial⟩
     refine seq (r0U hC [2, 5, 6, 7, 8] [8, 60, 124, 172] [] [(172, .arr 1 (.int .i64) ((set (statesOf ((nul_r fuel) (getD (Pln.Kids p) 0 Pln.zero) fl)) i 4) : List Int))] [IX (i : Int) (length (statesOf ((nul_r fuel) (getD (Pln.Kids p) 0 Pln.zero) fl)) : Int)] ?_ ?_)
     ·
      exact ⟨IX.of (by (simp only [List.length_append, List.length_cons, List.length_nil, List.length_set, List.length_replicate, statesOf_eq, istatesOf_eq, st_len, List.nil_append] at *; omega)), trivial⟩
     refine r0U hC [2, 5, 6, 7] [8, 60, 124] [] [(60, .arr 1 .bool ((out ++ ([(bif (getD ((nul_r fuel) (getD (Pln.Kids p) 0 Pln.zero) fl) i false) then ((bits .and .i64 (outcomes (getD (Pln.Exprs p) 0 Xpr.zero) (set (statesOf ((nul_r fuel) (getD (Pln.Kids p) 0 Pln.zero) fl)) i 4)) 2) != 0) else false)] : List Bool)) : List Bool))] [IX (i : Int) (length ((nul_r fuel) (getD (Pln.Kids p) 0 Pln.zero) fl) : Int), (((getD ((nul_r fuel) (getD (Pln.Kids p) 0 Pln.zero) fl) i false) = true) → (((getD ((nul_r fuel) (getD (Pln.Kids p) 0 Pln.zero) fl) i false) = true))), (((getD ((nul_r fuel) (getD (Pln.Kids p) 0 Pln.zero) fl) i false) = true) → (((getD ((nul_r fuel) (getD (Pln.Kids p) 0 Pln.zero) fl) i false) = true))), (((getD ((nul_r fuel) (getD (Pln.Kids p) 0 Pln.zero) fl) i false) = true) → IX (0 : Int) (length (Pln.Exprs p) : Int)), (((getD ((nul_r fuel) (getD (Pln.Kids p) 0 Pln.zero) fl) i false) = true) → (((getD ((nul_r fuel) (getD (Pln.Kids p) 0 Pln.zero) fl) i false) = true))), (((getD ((nul_r fuel) (getD (Pln.Kids p) 0 Pln.zero) fl) i false) = true) → (((getD ((nul_r fuel) (getD (Pln.Kids p) 0 Pln.zero) fl) i false) = true))), (((getD ((nul_r fuel) (getD (Pln.Kids p) 0 Pln.zero) fl) i false) = true) → (((getD ((nul_r fuel) (getD (Pln.Kids p) 0 Pln.zero) fl) i false) = true))), (((getD ((nul_r fuel) (getD (Pln.Kids p) 0 Pln.zero) fl) i false) = true) → (VX (set (statesOf ((nul_r fuel) (getD (Pln.Kids p) 0 Pln.zero) fl)) i 4) (getD (Pln.Exprs p) 0 Xpr.zero))), (((getD ((nul_r fuel) (getD (Pln.Kids p) 0 Pln.zero) fl) i false) = true) → (((getD ((nul_r fuel) (getD (Pln.Kids p) 0 Pln.zero) fl) i false) = true))), (((getD ((nul_r fuel) (getD (Pln.Kids p) 0 Pln.zero) fl) i false) = true) → (((getD ((nul_r fuel) (getD (Pln.Kids p) 0 Pln.zero) fl) i false) = true))), (((getD ((nul_r fuel) (getD (Pln.Kids p) 0 Pln.zero) fl) i false) = true) → (((getD ((nul_r fuel) (getD (Pln.Kids p) 0 Pln.zero) fl) i false) = true))), ((length out : Int) + (length ([(bif (getD ((nul_r fuel) (getD (Pln.Kids p) 0 Pln.zero) fl) i false) then ((bits .and .i64 (outcomes (getD (Pln.Exprs p) 0 Xpr.zero) (set (statesOf ((nul_r fuel) (getD (Pln.Kids p) 0 Pln.zero) fl)) i 4)) 2) != 0) else false)] : List Bool) : Int) ≤ 4294967296)] ?_ ?_
     ·
      exact ⟨IX.of (by omega), (by intro g24; assumption), (by intro g25; assumption), (by intro g26; refine IX.of ?_; omega), (by intro g27; assumption), (by intro g28; assumption), (by intro g29; assumption), (by intro g30; rw [statesOf_eq]; exact st_vx4 (n := 8) (by rw [hk0 () (by omega)]; exact (ValidExpr_iff.1 (allv_iff.1 (hN.1.exprs.1 (.inl (by omega))) 0 (by have hx := hOe (by omega); omega))).2)), (by intro g31; assumption), (by intro g32; assumption), (by intro g33; assumption), (by (have a0 := hk0 () (by omega); simp only [List.length_cons, List.length_nil]; omega)), trivial⟩
     refine r0U hC [2, 5, 6, 7] [8, 60, 124] [(7, sI ((i + 1 : Nat) : Int))] [] [R64 ((i + 1 : Nat) : Int)] ?_ ?_
     ·
      exact ⟨R64.of (by (have a0 := hk0 () (by omega); omega)), trivial⟩
     refine bk (i + 1, (out ++ ([(bif (getD ((nul_r fuel) (getD (Pln.Kids p) 0 Pln.zero) fl) i false) then ((bits .and .i64 (outcomes (getD (Pln.Exprs p) 0 Xpr.zero) (set (statesOf ((nul_r fuel) (getD (Pln.Kids p) 0 Pln.zero) fl)) i 4)) 2) != 0) else false)] : List Bool))) e23 hk19 ?_ ?_
     · refine ⟨?_, ?_⟩ <;> first | omega | (simp only [lens] at *; omega)
     · omega
    · intro h34q e35; refine kpU [5] [60] [] [] ?_; refine exit ?_; refine meet out (by kernel_rfl) ⟨?_, e35⟩; exact trivial
   · intro out hJ0 e36; have e37 := e6.trans (then_eq e36); refine seq (r1U hC [4] [60] [(4, .arr 60 1)] [] ?_); exact ret (rS (.slice .bool) e37)
  ·
   intro h38q e39; refine seq (r1U hC [1, 2, 5, 6, 33, 65] [8, 60, 124] [(65, sB ((Pln.Kind p) == 3))] [] ?_); refine cdE e39 ?_ ?_
   ·
    intro h40q e41; refine seq (seq (r1U hC [2, 5, 6, 9] [8, 60, 124] [(9, sI 0)] [] ?_)); refine lpB (ζ := (List Bool)) (fun x => ⟨[(5, .arr 60 1)], [(60, .arr 1 .bool (x : List Bool))]⟩) (fun x => True) (fun x => x) (α := Nat × (List Bool)) (fun x => ⟨[(2, .ref 8 1 0), (5, .arr 60 1), (6, .arr 124 1), (9, sI ((x.1 : Nat) : Int))], [(8, .box 1 [sI (Pln.Kind p), sI (Pln.Table p), sD9 (Pln.Exprs p), sD7 (Pln.Cols p), sD10 (Pln.Kids p)]), (60, .arr 1 .bool (x.2 : List Bool)), (124, .arr 1 .bool (((nul_r fuel) (getD (Pln.Kids p) 0 Pln.zero) fl) : List Bool))]⟩) (fun x => length x.2 = x.1 ∧ x.1 ≤ length (Pln.Exprs p)) (fun x => (length (Pln.Exprs p)) - x.1) (fun k x => nul_l1 (nul_r fuel) p fl k x.1 x.2) (0, ([] : List Bool)) (by kernel_rfl) ?_ ?_ ?_
    · refine ⟨?_, ?_⟩ <;> first | omega | simp
    ·
     intro x k56q hI1 hk54 e55; obtain ⟨i, out⟩ := x; replace hI1 : length out = i ∧ i ≤ length (Pln.Exprs p) := hI1; refine seq (seq (r1U hC [2, 5, 6, 9, 71] [8, 60, 124] [(71, sB (decide ((i : Int) < (length (Pln.Exprs p) : Int))))] [] ?_)); refine cdE e55 ?_ ?_
     ·
      intro h57q e58; refine kpU [2, 5, 6, 9] [8, 60, 124] [] [] ?_; refine AW.skip (seq (block (d0U hC hM [2, 5, 6, 9] [8, 60, 124] [] [(60, .arr 1 .bool ((out ++ ([((bits .and .i64 (outcomes (getD (Pln.Exprs p) i Xpr.zero) (statesOf ((nul_r fuel) (getD (Pln.Kids p) 0 Pln.zero) fl))) 4) != 0)] : List Bool)) : List Bool))] [IX (i : Int) (length (Pln.Exprs p) : Int), (length ((nul_r fuel) (getD (Pln.Kids p) 0 Pln.zero) fl) ≤ 6), (VX (statesOf ((nul_r fuel) (getD (Pln.Kids p) 0 Pln.zero) fl)) (getD (Pln.Exprs p) i Xpr.zero)), ((length out : Int) + (length ([((bits .and .i64 (outcomes (getD (Pln.Exprs p) i Xpr.zero) (statesOf ((nul_r fuel) (getD (Pln.Kids p) 0 Pln.zero) fl))) 4) != 0)] : List Bool) : Int) ≤ 4294967296)] ?_ ?_)))
      ·
       exact ⟨IX.of (by omega), (by (have a0 := hk0 () (by omega); omega)), (by (first | rw [istatesOf_eq] | rw [statesOf_eq]); exact st_vx (n := 8) (by rw [hk0 () (by omega)]; exact (ValidExpr_iff.1 (allv_iff.1 (hN.1.exprs.1 (.inr (by omega))) _ (by omega))).2)), (by (have hw := hN.1.wid.2.1 (by omega); have hb := widthOf_b p ws; simp only [List.length_cons, List.length_nil]; omega)), trivial⟩
      refine r0U hC [2, 5, 6, 9] [8, 60, 124] [(9, sI ((i + 1 : Nat) : Int))] [] [R64 ((i + 1 : Nat) : Int)] ?_ ?_
      ·
       exact ⟨R64.of (by omega), trivial⟩
      refine bk (i + 1, (out ++ ([((bits .and .i64 (outcomes (getD (Pln.Exprs p) i Xpr.zero) (statesOf ((nul_r fuel) (getD (Pln.Kids p) 0 Pln.zero) fl))) 4) != 0)] : List Bool))) e58 hk54 ?_ ?_
      · refine ⟨?_, ?_⟩ <;> first | omega | (simp only [lens] at *; omega)
      · omega
     · intro h59q e60; refine kpU [5] [60] [] [] ?_; refine exit ?_; refine meet out (by kernel_rfl) ⟨?_, e60⟩; exact trivial
    · intro out hJ1 e61; have e62 := e41.trans (then_eq e61); refine seq (r1U hC [4] [60] [(4, .arr 60 1)] [] ?_); exact ret (rS (.slice .bool) e62)
   ·
    intro h63q e64; refine seq (seq (r1U hC [1, 2, 5, 6, 33, 88] [8, 60, 124] [(88, sB ((Pln.Kind p) == 4))] [] ?_)); refine cdE e64 ?_ ?_
    ·
     intro h65q e66; refine AW.skip (cdE e66 ?_ ?_)
     ·
      intro h67q e68; refine seq (r0U hC [2, 5, 6, 10] [8, 60, 124, 384] [(10, .arr 384 1)] [(384, .arr 1 .bool (((nul_r fuel) (getD (Pln.Kids p) 1 Pln.zero) fl) : List Bool))] [IX (1 : Int) (length (Pln.Kids p) : Int), ((∃ ws, NPl ws fl (getD (Pln.Kids p) 1 Pln.zero)) ∧ SizeOf.sizeOf (getD (Pln.Kids p) 1 Pln.zero) < fuel)] ?_ ?_)
      ·
       exact ⟨IX.of (by omega), (⟨⟨ws, hN.kid (by omega)⟩, Nat.lt_of_lt_of_le (pkid_lt (by omega)) (Nat.le_of_lt_succ hpre.2)⟩), trivial⟩
      refine seq (r0U hC [2, 5, 10] [8, 60, 384] [] [(60, .arr 1 .bool ((([] : List Bool) ++ ((nul_r fuel) (getD (Pln.Kids p) 0 Pln.zero) fl)) : List Bool))] [(0 + (length ((nul_r fuel) (getD (Pln.Kids p) 0 Pln.zero) fl) : Int) ≤ 4294967296)] ?_ ?_)
      ·
       exact ⟨(by (have a0 := hk0 () (by omega); omega)), trivial⟩
      refine seq (seq (r1U hC [2, 5, 10, 11] [8, 60, 384] [(11, sI 0)] [] ?_)); refine lpB (ζ := (List Bool)) (fun x => ⟨[(5, .arr 60 1)], [(60, .arr 1 .bool (x : List Bool))]⟩) (fun x => True) (fun x => x) (α := Nat × (List Bool)) (fun x => ⟨[(2, .ref 8 1 0), (5, .arr 60 1), (10, .arr 384 1), (11, sI ((x.1 : Nat) : Int))], [(8, .box 1 [sI (Pln.Kind p), sI (Pln.Table p), sD9 (Pln.Exprs p), sD7 (Pln.Cols p), sD10 (Pln.Kids p)]), (60, .arr 1 .bool (x.2 : List Bool)), (384, .arr 1 .bool (((nul_r fuel) (getD (Pln.Kids p) 1 Pln.zero) fl) : List Bool))]⟩) (fun x => length x.2 = length (nul_r fuel (getD (Pln.Kids p) 0 Pln.zero) fl) + x.1) (fun x => (length ((nul_r fuel) (getD (Pln.Kids p) 1 Pln.zero) fl)) - x.1) (fun k x => nul_l2 (nul_r fuel) p fl k x.1 x.2) (0, (([] : List Bool) ++ ((nul_r fuel) (getD (Pln.Kids p) 0 Pln.zero) fl))) (by kernel_rfl) ?_ ?_ ?_
      · simp
      ·
       intro x k83q hI2 hk81 e82; obtain ⟨i, out⟩ := x; refine seq (seq (r1U hC [2, 5, 10, 11, 103] [8, 60, 384] [(103, sB (decide ((i : Int) < (length ((nul_r fuel) (getD (Pln.Kids p) 1 Pln.zero) fl) : Int))))] [] ?_)); refine cdE e82 ?_ ?_
       ·
        intro h84q e85; refine kpU [2, 5, 10, 11] [8, 60, 384] [] [] ?_; refine AW.skip (seq (block (r0U hC [2, 5, 10, 11] [8, 60, 384] [] [(60, .arr 1 .bool ((out ++ ([(bif (getD ((nul_r fuel) (getD (Pln.Kids p) 1 Pln.zero) fl) i false) then true else ((Pln.Kind p) == 5))] : List Bool)) : List Bool))] [IX (i : Int) (length ((nul_r fuel) (getD (Pln.Kids p) 1 Pln.zero) fl) : Int), (((getD ((nul_r fuel) (getD (Pln.Kids p) 1 Pln.zero) fl) i false) = false) → (((getD ((nul_r fuel) (getD (Pln.Kids p) 1 Pln.zero) fl) i false) = false))), (((getD ((nul_r fuel) (getD (Pln.Kids p) 1 Pln.zero) fl) i false) = false) → (((getD ((nul_r fuel) (getD (Pln.Kids p) 1 Pln.zero) fl) i false) = false))), (((getD ((nul_r fuel) (getD (Pln.Kids p) 1 Pln.zero) fl) i false) = false) → (((getD ((nul_r fuel) (getD (Pln.Kids p) 1 Pln.zero) fl) i false) = false))), ((length out : Int) + (length ([(bif (getD ((nul_r fuel) (getD (Pln.Kids p) 1 Pln.zero) fl) i false) then true else ((Pln.Kind p) == 5))] : List Bool) : Int) ≤ 4294967296)] ?_ ?_)))
        ·
         exact ⟨IX.of (by omega), (by intro g86; assumption), (by intro g87; assumption), (by intro g88; assumption), (by (have a0 := hk0 () (by omega); have a1 := hk1 () (by omega); simp only [List.length_append, List.length_cons, List.length_nil] at *; omega)), trivial⟩
        refine r0U hC [2, 5, 10, 11] [8, 60, 384] [(11, sI ((i + 1 : Nat) : Int))] [] [R64 ((i + 1 : Nat) : Int)] ?_ ?_
        ·
         exact ⟨R64.of (by (have a0 := hk0 () (by omega); have a1 := hk1 () (by omega); omega)), trivial⟩
        refine bk (i + 1, (out ++ ([(bif (getD ((nul_r fuel) (getD (Pln.Kids p) 1 Pln.zero) fl) i false) then true else ((Pln.Kind p) == 5))] : List Bool))) e85 hk81 ?_ ?_
        · simp only [lens] at *; omega
        · omega
       · intro h89q e90; refine kpU [5] [60] [] [] ?_; refine exit ?_; refine meet out (by kernel_rfl) ⟨?_, e90⟩; exact trivial
      · intro out hJ2 e91; have e92 := e68.trans (then_eq e91); refine seq (r1U hC [4] [60] [(4, .arr 60 1)] [] ?_); exact ret (rS (.slice .bool) e92)
     ·
      intro h93q e94; refine seq (r1U hC [1, 2, 5, 6, 33, 119] [8, 60, 124] [(119, sB ((Pln.Kind p) == 6))] [] ?_); refine cdE e94 ?_ ?_
      ·
       intro h95q e96; refine seq (r0U hC [5, 6, 12] [60, 124, 504] [(12, .arr 504 1)] [(504, .arr 1 .bool (((nul_r fuel) (getD (Pln.Kids p) 1 Pln.zero) fl) : List Bool))] [IX (1 : Int) (length (Pln.Kids p) : Int), ((∃ ws, NPl ws fl (getD (Pln.Kids p) 1 Pln.zero)) ∧ SizeOf.sizeOf (getD (Pln.Kids p) 1 Pln.zero) < fuel)] ?_ ?_)
       ·
        exact ⟨IX.of (by omega), (⟨⟨ws, hN.kid (by omega)⟩, Nat.lt_of_lt_of_le (pkid_lt (by omega)) (Nat.le_of_lt_succ hpre.2)⟩), trivial⟩
       refine seq (seq (r1U hC [5, 6, 12, 13] [60, 124, 504] [(13, sI 0)] [] ?_)); refine lpB (ζ := (List Bool)) (fun x => ⟨[(5, .arr 60 1)], [(60, .arr 1 .bool (x : List Bool))]⟩) (fun x => True) (fun x => x) (α := Nat × (List Bool)) (fun x => ⟨[(5, .arr 60 1), (6, .arr 124 1), (12, .arr 504 1), (13, sI ((x.1 : Nat) : Int))], [(60, .arr 1 .bool (x.2 : List Bool)), (124, .arr 1 .bool (((nul_r fuel) (getD (Pln.Kids p) 0 Pln.zero) fl) : List Bool)), (504, .arr 1 .bool (((nul_r fuel) (getD (Pln.Kids p) 1 Pln.zero) fl) : List Bool))]⟩) (fun x => length x.2 = x.1) (fun x => (length ((nul_r fuel) (getD (Pln.Kids p) 0 Pln.zero) fl)) - x.1) (fun k x => nul_l3 (nul_r fuel) p fl k x.1 x.2) (0, ([] : List Bool)) (by kernel_rfl) ?_ ?_ ?_
       · omega
       ·
        intro x k111q hI3 hk109 e110; obtain ⟨i, out⟩ := x; refine seq (seq (r1U hC [5, 6, 12, 13, 130] [60, 124, 504] [(130, sB (decide ((i : Int) < (length ((nul_r fuel) (getD (Pln.Kids p) 0 Pln.zero) fl) : Int))))] [] ?_)); refine cdE e110 ?_ ?_
        ·
         intro h112q e113; refine kpU [5, 6, 12, 13] [60, 124, 504] [] [] ?_; refine AW.skip (seq (block (r0U hC [5, 6, 12, 13] [60, 124, 504] [] [(60, .arr 1 .bool ((out ++ ([(bif (getD ((nul_r fuel) (getD (Pln.Kids p) 0 Pln.zero) fl) i false) then true else (getD ((nul_r fuel) (getD (Pln.Kids p) 1 Pln.zero) fl) i false))] : List Bool)) : List Bool))] [IX (i : Int) (length ((nul_r fuel) (getD (Pln.Kids p) 0 Pln.zero) fl) : Int), (((getD ((nul_r fuel) (getD (Pln.Kids p) 0 Pln.zero) fl) i false) = false) → (((getD ((nul_r fuel) (getD (Pln.Kids p) 0 Pln.zero) fl) i false) = false))), (((getD ((nul_r fuel) (getD (Pln.Kids p) 0 Pln.zero) fl) i false) = false) → (((getD ((nul_r fuel) (getD (Pln.Kids p) 0 Pln.zero) fl) i false) = false))), (((getD ((nul_r fuel) (getD (Pln.Kids p) 0 Pln.zero) fl) i false) = false) → IX (i : Int) (length ((nul_r fuel) (getD (Pln.Kids p) 1 Pln.zero) fl) : Int)), (((getD ((nul_r fuel) (getD (Pln.Kids p) 0 Pln.zero) fl) i false) = false) → (((getD ((nul_r fuel) (getD (Pln.Kids p) 0 Pln.zero) fl) i false) = false))), (((getD ((nul_r fuel) (getD (Pln.Kids p) 0 Pln.zero) fl) i false) = false) → (((getD ((nul_r fuel) (getD (Pln.Kids p) 0 Pln.zero) fl) i false) = false))), ((length out : Int) + (length ([(bif (getD ((nul_r fuel) (getD (Pln.Kids p) 0 Pln.zero) fl) i false) then true else (getD ((nul_r fuel) (getD (Pln.Kids p) 1 Pln.zero) fl) i false))] : List Bool) : Int) ≤ 4294967296)] ?_ ?_)))
         ·
          exact ⟨IX.of (by omega), (by intro g114; assumption), (by intro g115; assumption), (by intro g116; refine IX.of ?_; omega), (by intro g117; assumption), (by intro g118; assumption), (by omega), trivial⟩
         refine r0U hC [5, 6, 12, 13] [60, 124, 504] [(13, sI ((i + 1 : Nat) : Int))] [] [R64 ((i + 1 : Nat) : Int)] ?_ ?_
         ·
          exact ⟨R64.of (by omega), trivial⟩
         refine bk (i + 1, (out ++ ([(bif (getD ((nul_r fuel) (getD (Pln.Kids p) 0 Pln.zero) fl) i false) then true else (getD ((nul_r fuel) (getD (Pln.Kids p) 1 Pln.zero) fl) i false))] : List Bool))) e113 hk109 ?_ ?_
         · omega
         · omega
        · intro h119q e120; refine kpU [5] [60] [] [] ?_; refine exit ?_; refine meet out (by kernel_rfl) ⟨?_, e120⟩; exact trivial
       · intro out hJ3 e121; have e122 := e96.trans (then_eq e121); refine seq (r1U hC [4] [60] [(4, .arr 60 1)] [] ?_); exact ret (rS (.slice .bool) e122)
      ·
       intro h123q e124; refine seq (r1U hC [2, 5, 6, 147] [8, 60, 124] [(147, sB ((Pln.Kind p) == 8))] [] ?_); refine cdE e124 ?_ ?_
       ·
        intro h125q e126; refine seq (seq (r1U hC [2, 5, 6, 14] [8, 60, 124] [(14, sI 0)] [] ?_)); refine lpB (ζ := (List Bool)) (fun x => ⟨[(5, .arr 60 1)], [(60, .arr 1 .bool (x : List Bool))]⟩) (fun x => length x = length (Pln.Cols p)) (fun x => x) (α := Nat × (List Bool)) (fun x => ⟨[(2, .ref 8 1 0), (5, .arr 60 1), (6, .arr 124 1), (14, sI ((x.1 : Nat) : Int))], [(8, .box 1 [sI (Pln.Kind p), sI (Pln.Table p), sD9 (Pln.Exprs p), sD7 (Pln.Cols p), sD10 (Pln.Kids p)]), (60, .arr 1 .bool (x.2 : List Bool)), (124, .arr 1 .bool (((nul_r fuel) (getD (Pln.Kids p) 0 Pln.zero) fl) : List Bool))]⟩) (fun x => length x.2 = x.1 ∧ x.1 ≤ length (Pln.Cols p)) (fun x => (length (Pln.Cols p)) - x.1) (fun k x => nul_l4 (nul_r fuel) p fl k x.1 x.2) (0, ([] : List Bool)) (by kernel_rfl) ?_ ?_ ?_
        · refine ⟨?_, ?_⟩ <;> first | omega | simp
        ·
         intro x k141q hI4 hk139 e140; obtain ⟨i, out⟩ := x; refine seq (seq (r1U hC [2, 5, 6, 14, 153] [8, 60, 124] [(153, sB (decide ((i : Int) < (length (Pln.Cols p) : Int))))] [] ?_)); refine cdE e140 ?_ ?_
         ·
          intro h142q e143; refine kpU [2, 5, 6, 14] [8, 60, 124] [] [] ?_; refine AW.skip (seq (block (r0U hC [2, 5, 6, 14] [8, 60, 124] [] [(60, .arr 1 .bool ((out ++ ([(getD ((nul_r fuel) (getD (Pln.Kids p) 0 Pln.zero) fl) (Int.toNat (getD (Pln.Cols p) i 0)) false)] : List Bool)) : List Bool))] [IX (i : Int) (length (Pln.Cols p) : Int), IX (getD (Pln.Cols p) i 0) (length ((nul_r fuel) (getD (Pln.Kids p) 0 Pln.zero) fl) : Int), ((length out : Int) + (length ([(getD ((nul_r fuel) (getD (Pln.Kids p) 0 Pln.zero) fl) (Int.toNat (getD (Pln.Cols p) i 0)) false)] : List Bool) : Int) ≤ 4294967296)] ?_ ?_)))
          ·
           refine ⟨?_, ?_, ?_, trivial⟩
           · refine IX.of ?_; omega
           ·
            refine IX.of ?_; have hv := (vgc_iff.1 (hN.1.wid.2.2.2.2 (by omega)).2).2; have a := hk0 () (by omega); first
            | (have := (hv v138 (by omega)).1; omega)
            | (have := (hv i (by omega)).1; omega)
           · omega
          refine r0U hC [2, 5, 6, 14] [8, 60, 124] [(14, sI ((i + 1 : Nat) : Int))] [] [R64 ((i + 1 : Nat) : Int)] ?_ ?_
          ·
           exact ⟨R64.of (by omega), trivial⟩
          refine bk (i + 1, (out ++ ([(getD ((nul_r fuel) (getD (Pln.Kids p) 0 Pln.zero) fl) (Int.toNat (getD (Pln.Cols p) i 0)) false)] : List Bool))) e143 hk139 ?_ ?_
          · refine ⟨?_, ?_⟩ <;> first | omega | (simp only [lens] at *; omega)
          · omega
         · intro h144q e145; refine kpU [5] [60] [] [] ?_; refine exit ?_; refine meet out (by kernel_rfl) ⟨?_, e145⟩; omega
        ·
         intro out hJ4 e146; have e147 := e126.trans (then_eq e146); refine seq (r0 hC [4] [60] ⟨[(4, .arr 60 1)], [(60, .arr 1 .bool ((out ++ ([false] : List Bool)) : List Bool))]⟩ [((length out : Int) + (length ([false] : List Bool) : Int) ≤ 4294967296)] ?_ ?_)
         ·
          exact ⟨(by omega), trivial⟩
         exact ret (rS (.slice .bool) e147)
       · intro h148q e149; refine kpU [6] [124] [] [] ?_; refine AW.skip (seq (r1U hC [4] [124] [(4, .arr 124 1)] [] ?_)); exact ret (rS (.slice .bool) e149)
    ·
     intro h150q e151; refine r1U hC [1, 2, 5, 6, 33, 88] [8, 60, 124] [(88, sB ((Pln.Kind p) == 5))] [] ?_; refine cdE e151 ?_ ?_
     ·
      intro h152q e153; refine seq (r0 hC [2, 5, 6, 10] [8, 60, 124, 384] ⟨[(2, .ref 8 1 0), (5, .arr 60 1), (6, .arr 124 1), (10, .arr 384 1)], [(8, .box 1 [sI (Pln.Kind p), sI (Pln.Table p), sD9 (Pln.Exprs p), sD7 (Pln.Cols p), sD10 (Pln.Kids p)]), (60, .arr 1 .bool (([] : List Bool) : List Bool)), (124, .arr 1 .bool (((nul_r fuel) (getD (Pln.Kids p) 0 Pln.zero) fl) : List Bool)), (384, .arr 1 .bool (((nul_r fuel) (getD (Pln.Kids p) 1 Pln.zero) fl) : List Bool))]⟩ [IX (1 : Int) (length (Pln.Kids p) : Int), ((∃ ws, NPl ws fl (getD (Pln.Kids p) 1 Pln.zero)) ∧ SizeOf.sizeOf (getD (Pln.Kids p) 1 Pln.zero) < fuel)] ?_ ?_)
      ·
       exact ⟨IX.of (by omega), (⟨⟨ws, hN.kid (by omega)⟩, Nat.lt_of_lt_of_le (pkid_lt (by omega)) (Nat.le_of_lt_succ hpre.2)⟩), trivial⟩
      refine seq (r0U hC [2, 5, 10] [8, 60, 384] [] [(60, .arr 1 .bool ((([] : List Bool) ++ ((nul_r fuel) (getD (Pln.Kids p) 0 Pln.zero) fl)) : List Bool))] [(0 + (length ((nul_r fuel) (getD (Pln.Kids p) 0 Pln.zero) fl) : Int) ≤ 4294967296)] ?_ ?_)
      ·
       exact ⟨(by (have a0 := hk0 () (by omega); omega)), trivial⟩
      refine seq (seq (r1U hC [2, 5, 10, 11] [8, 60, 384] [(11, sI 0)] [] ?_)); refine lpB (ζ := (List Bool)) (fun x => ⟨[(5, .arr 60 1)], [(60, .arr 1 .bool (x : List Bool))]⟩) (fun x => True) (fun x => x) (α := Nat × (List Bool)) (fun x => ⟨[(2, .ref 8 1 0), (5, .arr 60 1), (10, .arr 384 1), (11, sI ((x.1 : Nat) : Int))], [(8, .box 1 [sI (Pln.Kind p), sI (Pln.Table p), sD9 (Pln.Exprs p), sD7 (Pln.Cols p), sD10 (Pln.Kids p)]), (60, .arr 1 .bool (x.2 : List Bool)), (384, .arr 1 .bool (((nul_r fuel) (getD (Pln.Kids p) 1 Pln.zero) fl) : List Bool))]⟩) (fun x => length x.2 = length (nul_r fuel (getD (Pln.Kids p) 0 Pln.zero) fl) + x.1) (fun x => (length ((nul_r fuel) (getD (Pln.Kids p) 1 Pln.zero) fl)) - x.1) (fun k x => nul_l2 (nul_r fuel) p fl k x.1 x.2) (0, (([] : List Bool) ++ ((nul_r fuel) (getD (Pln.Kids p) 0 Pln.zero) fl))) (by kernel_rfl) ?_ ?_ ?_
      · simp
      ·
       intro x k156q hI2 hk154 e155; obtain ⟨i, out⟩ := x; refine seq (seq (r1U hC [2, 5, 10, 11, 103] [8, 60, 384] [(103, sB (decide ((i : Int) < (length ((nul_r fuel) (getD (Pln.Kids p) 1 Pln.zero) fl) : Int))))] [] ?_)); refine cdE e155 ?_ ?_
       ·
        intro h157q e158; refine kpU [2, 5, 10, 11] [8, 60, 384] [] [] ?_; refine AW.skip (seq (block (r0U hC [2, 5, 10, 11] [8, 60, 384] [] [(60, .arr 1 .bool ((out ++ ([(bif (getD ((nul_r fuel) (getD (Pln.Kids p) 1 Pln.zero) fl) i false) then true else ((Pln.Kind p) == 5))] : List Bool)) : List Bool))] [IX (i : Int) (length ((nul_r fuel) (getD (Pln.Kids p) 1 Pln.zero) fl) : Int), (((getD ((nul_r fuel) (getD (Pln.Kids p) 1 Pln.zero) fl) i false) = false) → (((getD ((nul_r fuel) (getD (Pln.Kids p) 1 Pln.zero) fl) i false) = false))), (((getD ((nul_r fuel) (getD (Pln.Kids p) 1 Pln.zero) fl) i false) = false) → (((getD ((nul_r fuel) (getD (Pln.Kids p) 1 Pln.zero) fl) i false) = false))), (((getD ((nul_r fuel) (getD (Pln.Kids p) 1 Pln.zero) fl) i false) = false) → (((getD ((nul_r fuel) (getD (Pln.Kids p) 1 Pln.zero) fl) i false) = false))), ((length out : Int) + (length ([(bif (getD ((nul_r fuel) (getD (Pln.Kids p) 1 Pln.zero) fl) i false) then true else ((Pln.Kind p) == 5))] : List Bool) : Int) ≤ 4294967296)] ?_ ?_)))
        ·
         exact ⟨IX.of (by omega), (by intro g159; assumption), (by intro g160; assumption), (by intro g161; assumption), (by (have a0 := hk0 () (by omega); have a1 := hk1 () (by omega); simp only [List.length_append, List.length_cons, List.length_nil] at *; omega)), trivial⟩
        refine r0U hC [2, 5, 10, 11] [8, 60, 384] [(11, sI ((i + 1 : Nat) : Int))] [] [R64 ((i + 1 : Nat) : Int)] ?_ ?_
        ·
         exact ⟨R64.of (by (have a0 := hk0 () (by omega); have a1 := hk1 () (by omega); omega)), trivial⟩
        refine bk (i + 1, (out ++ ([(bif (getD ((nul_r fuel) (getD (Pln.Kids p) 1 Pln.zero) fl) i false) then true else ((Pln.Kind p) == 5))] : List Bool))) e158 hk154 ?_ ?_
        · simp only [lens] at *; omega
        · omega
       · intro h162q e163; refine kpU [5] [60] [] [] ?_; refine exit ?_; refine meet out (by kernel_rfl) ⟨?_, e163⟩; exact trivial
      · intro out hJ2 e164; have e165 := e153.trans (then_eq e164); refine seq (r1U hC [4] [60] [(4, .arr 60 1)] [] ?_); exact ret (rS (.slice .bool) e165)
     ·
      intro h166q e167; refine seq (r1 hC [1, 2, 5, 6, 33, 119] [8, 60, 124] ⟨[(1, sD12 fl), (2, .ref 8 1 0), (5, .arr 60 1), (6, .arr 124 1), (33, sI (Pln.Kind p)), (119, sB ((Pln.Kind p) == 6))], [(8, .box 1 [sI (Pln.Kind p), sI (Pln.Table p), sD9 (Pln.Exprs p), sD7 (Pln.Cols p), sD10 (Pln.Kids p)]), (60, .arr 1 .bool (([] : List Bool) : List Bool)), (124, .arr 1 .bool (((nul_r fuel) (getD (Pln.Kids p) 0 Pln.zero) fl) : List Bool))]⟩ ?_); refine cdE e167 ?_ ?_
      ·
       intro h168q e169; refine seq (r0U hC [5, 6, 12] [60, 124, 504] [(12, .arr 504 1)] [(504, .arr 1 .bool (((nul_r fuel) (getD (Pln.Kids p) 1 Pln.zero) fl) : List Bool))] [IX (1 : Int) (length (Pln.Kids p) : Int), ((∃ ws, NPl ws fl (getD (Pln.Kids p) 1 Pln.zero)) ∧ SizeOf.sizeOf (getD (Pln.Kids p) 1 Pln.zero) < fuel)] ?_ ?_)
       ·
        exact ⟨IX.of (by omega), (⟨⟨ws, hN.kid (by omega)⟩, Nat.lt_of_lt_of_le (pkid_lt (by omega)) (Nat.le_of_lt_succ hpre.2)⟩), trivial⟩
       refine seq (seq (r1U hC [5, 6, 12, 13] [60, 124, 504] [(13, sI 0)] [] ?_)); refine lpB (ζ := (List Bool)) (fun x => ⟨[(5, .arr 60 1)], [(60, .arr 1 .bool (x : List Bool))]⟩) (fun x => True) (fun x => x) (α := Nat × (List Bool)) (fun x => ⟨[(5, .arr 60 1), (6, .arr 124 1), (12, .arr 504 1), (13, sI ((x.1 : Nat) : Int))], [(60, .arr 1 .bool (x.2 : List Bool)), (124, .arr 1 .bool (((nul_r fuel) (getD (Pln.Kids p) 0 Pln.zero) fl) : List Bool)), (504, .arr 1 .bool (((nul_r fuel) (getD (Pln.Kids p) 1 Pln.zero) fl) : List Bool))]⟩) (fun x => length x.2 = x.1) (fun x => (length ((nul_r fuel) (getD (Pln.Kids p) 0 Pln.zero) fl)) - x.1) (fun k x => nul_l3 (nul_r fuel) p fl k x.1 x.2) (0, ([] : List Bool)) (by kernel_rfl) ?_ ?_ ?_
       · simp
       ·
        intro x k172q hI3 hk170 e171; obtain ⟨i, out⟩ := x; replace hI3 : length out = i := hI3; refine seq (seq (r1U hC [5, 6, 12, 13, 130] [60, 124, 504] [(130, sB (decide ((i : Int) < (length ((nul_r fuel) (getD (Pln.Kids p) 0 Pln.zero) fl) : Int))))] [] ?_)); refine cdE e171 ?_ ?_
        ·
         intro h173q e174; refine kpU [5, 6, 12, 13] [60, 124, 504] [] [] ?_; refine AW.skip (seq (block (r0U hC [5, 6, 12, 13] [60, 124, 504] [] [(60, .arr 1 .bool ((out ++ ([(bif (getD ((nul_r fuel) (getD (Pln.Kids p) 0 Pln.zero) fl) i false) then true else (getD ((nul_r fuel) (getD (Pln.Kids p) 1 Pln.zero) fl) i false))] : List Bool)) : List Bool))] [IX (i : Int) (length ((nul_r fuel) (getD (Pln.Kids p) 0 Pln.zero) fl) : Int), (((getD ((nul_r fuel) (getD (Pln.Kids p) 0 Pln.zero) fl) i false) = false) → (((getD ((nul_r fuel) (getD (Pln.Kids p) 0 Pln.zero) fl) i false) = false))), (((getD ((nul_r fuel) (getD (Pln.Kids p) 0 Pln.zero) fl) i false) = false) → (((getD ((nul_r fuel) (getD (Pln.Kids p) 0 Pln.zero) fl) i false) = false))), (((getD ((nul_r fuel) (getD (Pln.Kids p) 0 Pln.zero) fl) i false) = false) → IX (i : Int) (length ((nul_r fuel) (getD (Pln.Kids p) 1 Pln.zero) fl) : Int)), (((getD ((nul_r fuel) (getD (Pln.Kids p) 0 Pln.zero) fl) i false) = false) → (((getD ((nul_r fuel) (getD (Pln.Kids p) 0 Pln.zero) fl) i false) = false))), (((getD ((nul_r fuel) (getD (Pln.Kids p) 0 Pln.zero) fl) i false) = false) → (((getD ((nul_r fuel) (getD (Pln.Kids p) 0 Pln.zero) fl) i false) = false))), ((length out : Int) + (length ([(bif (getD ((nul_r fuel) (getD (Pln.Kids p) 0 Pln.zero) fl) i false) then true else (getD ((nul_r fuel) (getD (Pln.Kids p) 1 Pln.zero) fl) i false))] : List Bool) : Int) ≤ 4294967296)] ?_ ?_)))
         ·
          exact ⟨IX.of (by omega), (by intro g175; assumption), (by intro g176; assumption), (by intro g177; refine IX.of ?_; (have a0 := hk0 () (by omega); have a1 := hk1 () (by omega); have hw := (hN.1.wid.2.2.2.1 (by omega)).2; omega)), (by intro g178; assumption), (by intro g179; assumption), (by (have a0 := hk0 () (by omega); simp only [List.length_cons, List.length_nil]; omega)), trivial⟩
         refine r0U hC [5, 6, 12, 13] [60, 124, 504] [(13, sI ((i + 1 : Nat) : Int))] [] [R64 ((i + 1 : Nat) : Int)] ?_ ?_
         ·
          exact ⟨R64.of (by (have a0 := hk0 () (by omega); omega)), trivial⟩
         refine bk (i + 1, (out ++ ([(bif (getD ((nul_r fuel) (getD (Pln.Kids p) 0 Pln.zero) fl) i false) then true else (getD ((nul_r fuel) (getD (Pln.Kids p) 1 Pln.zero) fl) i false))] : List Bool))) e174 hk170 ?_ ?_
         · simp only [lens] at *; omega
         · omega
        · intro h180q e181; refine kpU [5] [60] [] [] ?_; refine exit ?_; refine meet out (by kernel_rfl) ⟨?_, e181⟩; exact trivial
       · intro out hJ3 e182; have e183 := e169.trans (then_eq e182); refine seq (r1U hC [4] [60] [(4, .arr 60 1)] [] ?_); exact ret (rS (.slice .bool) e183)
      ·
       intro h184q e185; refine seq (r1U hC [2, 5, 6, 147] [8, 60, 124] [(147, sB ((Pln.Kind p) == 8))] [] ?_); refine cdE e185 ?_ ?_
       ·
        intro h186q e187; refine seq (seq (r1U hC [2, 5, 6, 14] [8, 60, 124] [(14, sI 0)] [] ?_)); refine lpB (ζ := (List Bool)) (fun x => ⟨[(5, .arr 60 1)], [(60, .arr 1 .bool (x : List Bool))]⟩) (fun x => length x = length (Pln.Cols p)) (fun x => x) (α := Nat × (List Bool)) (fun x => ⟨[(2, .ref 8 1 0), (5, .arr 60 1), (6, .arr 124 1), (14, sI ((x.1 : Nat) : Int))], [(8, .box 1 [sI (Pln.Kind p), sI (Pln.Table p), sD9 (Pln.Exprs p), sD7 (Pln.Cols p), sD10 (Pln.Kids p)]), (60, .arr 1 .bool (x.2 : List Bool)), (124, .arr 1 .bool (((nul_r fuel) (getD (Pln.Kids p) 0 Pln.zero) fl) : List Bool))]⟩) (fun x => length x.2 = x.1 ∧ x.1 ≤ length (Pln.Cols p)) (fun x => (length (Pln.Cols p)) - x.1) (fun k x => nul_l4 (nul_r fuel) p fl k x.1 x.2) (0, ([] : List Bool)) (by kernel_rfl) ?_ ?_ ?_
        · refine ⟨?_, ?_⟩ <;> first | omega | simp
        ·
         intro x k190q hI4 hk188 e189; obtain ⟨i, out⟩ := x; replace hI4 : length out = i ∧ i ≤ length (Pln.Cols p) := hI4; refine seq (seq (r1U hC [2, 5, 6, 14, 153] [8, 60, 124] [(153, sB (decide ((i : Int) < (length (Pln.Cols p) : Int))))] [] ?_)); refine cdE e189 ?_ ?_
         ·
          intro h191q e192; refine kpU [2, 5, 6, 14] [8, 60, 124] [] [] ?_; refine AW.skip (seq (block (r0U hC [2, 5, 6, 14] [8, 60, 124] [] [(60, .arr 1 .bool ((out ++ ([(getD ((nul_r fuel) (getD (Pln.Kids p) 0 Pln.zero) fl) (Int.toNat (getD (Pln.Cols p) i 0)) false)] : List Bool)) : List Bool))] [IX (i : Int) (length (Pln.Cols p) : Int), IX (getD (Pln.Cols p) i 0) (length ((nul_r fuel) (getD (Pln.Kids p) 0 Pln.zero) fl) : Int), ((length out : Int) + (length ([(getD ((nul_r fuel) (getD (Pln.Kids p) 0 Pln.zero) fl) (Int.toNat (getD (Pln.Cols p) i 0)) false)] : List Bool) : Int) ≤ 4294967296)] ?_ ?_)))
          ·
           refine ⟨?_, ?_, ?_, trivial⟩
           · refine IX.of ?_; omega
           ·
            refine IX.of ?_; have hv := (vgc_iff.1 (hN.1.wid.2.2.2.2 (by omega)).2).2; have a := hk0 () (by omega); first
            | (have := (hv v138 (by omega)).1; omega)
            | (have := (hv i (by omega)).1; omega)
           · (have a0 := hk0 () (by omega); have hw := hN.1.wid.2.2.2.2 (by omega); have hb := widthOf_b p ws; simp only [List.length_append, List.length_cons, List.length_nil] at *; omega)
          refine r0U hC [2, 5, 6, 14] [8, 60, 124] [(14, sI ((i + 1 : Nat) : Int))] [] [R64 ((i + 1 : Nat) : Int)] ?_ ?_
          ·
           exact ⟨R64.of (by omega), trivial⟩
          refine bk (i + 1, (out ++ ([(getD ((nul_r fuel) (getD (Pln.Kids p) 0 Pln.zero) fl) (Int.toNat (getD (Pln.Cols p) i 0)) false)] : List Bool))) e192 hk188 ?_ ?_
          · refine ⟨?_, ?_⟩ <;> first | omega | (simp only [lens] at *; omega)
          · omega
         · intro h193q e194; refine kpU [5] [60] [] [] ?_; refine exit ?_; refine meet out (by kernel_rfl) ⟨?_, e194⟩; omega
        ·
         intro out hJ4 e195; have e196 := e187.trans (then_eq e195); refine seq (r0 hC [4] [60] ⟨[(4, .arr 60 1)], [(60, .arr 1 .bool ((out ++ ([false] : List Bool)) : List Bool))]⟩ [((length out : Int) + (length ([false] : List Bool) : Int) ≤ 4294967296)] ?_ ?_)
         ·
          exact ⟨(by (have a0 := hk0 () (by omega); have hw := hN.1.wid.2.2.2.2 (by omega); have hb := widthOf_b p ws; simp only [List.length_append, List.length_cons, List.length_nil] at *; omega)), trivial⟩
         exact ret (rS (.slice .bool) e196)
       · intro h197q e198; refine kpU [6] [124] [] [] ?_; refine AW.skip (seq (r1U hC [4] [124] [(4, .arr 124 1)] [] ?_)); exact ret (rS (.slice .bool) e198)

theorem nul_fu : AllTV (nul_sp.ps.map PK.ty) (fun tvs => nul_sp.pre tvs → ∃ k, (nul_spn k).pre tvs ∧ (nul_spn k).fn tvs = nul_sp.fn tvs ∧ (nul_spn k).bx tvs = nul_sp.bx tvs) :=
 (fun (p : Pln) (fl : List (List Bool)) h => ⟨SizeOf.sizeOf p + 1, (show (∃ ws, NPl ws fl p) ∧ SizeOf.sizeOf p < SizeOf.sizeOf p + 1 from ⟨h, Nat.lt_succ_self _⟩), (show (nul_spn (SizeOf.sizeOf p + 1)).fn [⟨(.named 2), (p : Pln)⟩, ⟨(.slice (.slice .bool)), (fl : List (List Bool))⟩] = ([⟨(.slice .bool), (nul_r (SizeOf.sizeOf p + 1) p fl)⟩] : List TV) from by kernel_rfl).trans (show ([⟨(.slice .bool), (nul_r (SizeOf.sizeOf p + 1) p fl)⟩] : List TV) = nul_sp.fn [⟨(.named 2), (p : Pln)⟩, ⟨(.slice (.slice .bool)), (fl : List (List Bool))⟩] from by kernel_rfl), by kernel_rfl⟩)

theorem nul_ok : FnOK Try.prog 79 nul_sp := FnOK.of_fuel nul_okn (fun _ => rfl) (fun _ => rfl) (AllTV.get nul_fu)

end
end Go.Proofs.Ytodcdgolcbdkgaa
