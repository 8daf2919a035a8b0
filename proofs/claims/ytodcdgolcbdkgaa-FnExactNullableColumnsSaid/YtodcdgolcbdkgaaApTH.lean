/-
  A part of the proof of this claim (ApTH): what functions of the program compute, and plain facts of that. No conditions.
-/
import Derived.Test.YtodcdgolcbdkgaaApTG
set_option linter.all false
namespace Go.Proofs.Ytodcdgolcbdkgaa
open Go Go.Am
open Go.Am.AW (seq r1U ret kpU cdE r0U r1 meet block rS bk exit lpB r0 kp)
open List (length getD set replicate)
noncomputable section

def inul_l0 (self : Pln → (List (List Bool)) → (List Bool)) (p : Pln) (fl : List (List Bool)) : Nat → Nat → (List Bool) → (List Bool)
 | 0, v58, list => list
 | k + 1, v58, list => (bif (decide ((v58 : Int) < (length (Pln.Exprs p) : Int))) then (inul_l0 self p fl k (v58 + 1) (set list v58 ((bits .and .i64 (ioutcomes (getD (Pln.Exprs p) v58 Xpr.zero) (istatesOf (self (getD (Pln.Kids p) 0 Pln.zero) fl))) 4) != 0))) else list)

def inul_l1 (self : Pln → (List (List Bool)) → (List Bool)) (p : Pln) (fl : List (List Bool)) : Nat → Nat → (List Bool) → (List Bool)
 | 0, v97, first => first
 | k + 1, v97, first => (bif (decide ((v97 : Int) < (length (self (getD (Pln.Kids p) 1 Pln.zero) fl) : Int))) then (inul_l1 self p fl k (v97 + 1) (first ++ ([true] : List Bool))) else first)

def inul_l2 (self : Pln → (List (List Bool)) → (List Bool)) (p : Pln) (fl : List (List Bool)) : Nat → Nat → (List Bool) → (List Bool)
 | 0, v114, first => first
 | k + 1, v114, first => (bif (decide ((v114 : Int) < (length (self (getD (Pln.Kids p) 1 Pln.zero) fl) : Int))) then (inul_l2 self p fl k (v114 + 1) (set first v114 (bif (getD first v114 false) then true else (getD (self (getD (Pln.Kids p) 1 Pln.zero) fl) v114 false)))) else first)

def inul_l3 (self : Pln → (List (List Bool)) → (List Bool)) (p : Pln) (fl : List (List Bool)) : Nat → Nat → (List Bool) → (List Bool)
 | 0, v138, list => list
 | k + 1, v138, list => (bif (decide ((v138 : Int) < (length (Pln.Cols p) : Int))) then (inul_l3 self p fl k (v138 + 1) (list ++ ([(getD (self (getD (Pln.Kids p) 0 Pln.zero) fl) (Int.toNat (getD (Pln.Cols p) v138 0)) false)] : List Bool))) else list)

def inul_r : Nat → Pln → (List (List Bool)) → (List Bool)
 | 0, p, fl => []
 | fuel + 1, p, fl => (bif ((Pln.Kind p) == 1) then (icopiedB (getD fl (Int.toNat (Pln.Table p)) [])) else (bif ((Pln.Kind p) == 2) then (iafter p ((inul_r fuel) (getD (Pln.Kids p) 0 Pln.zero) fl)) else (bif ((Pln.Kind p) == 3) then (andThen (inul_l0 (inul_r fuel) p fl ((length (Pln.Exprs p)) - 0 + 1) 0 (replicate (length (Pln.Exprs p)) false : List Bool)) (fun z => (fun (list : List Bool) => list) z)) else (bif ((Pln.Kind p) == 4) then (((inul_r fuel) (getD (Pln.Kids p) 0 Pln.zero) fl) ++ ((inul_r fuel) (getD (Pln.Kids p) 1 Pln.zero) fl)) else (bif ((Pln.Kind p) == 5) then (andThen (inul_l1 (inul_r fuel) p fl ((length ((inul_r fuel) (getD (Pln.Kids p) 1 Pln.zero) fl)) - 0 + 1) 0 ((inul_r fuel) (getD (Pln.Kids p) 0 Pln.zero) fl)) (fun z => (fun (first : List Bool) => first) z)) else (bif ((Pln.Kind p) == 6) then (andThen (inul_l2 (inul_r fuel) p fl ((length ((inul_r fuel) (getD (Pln.Kids p) 1 Pln.zero) fl)) - 0 + 1) 0 ((inul_r fuel) (getD (Pln.Kids p) 0 Pln.zero) fl)) (fun z => (fun (first : List Bool) => first) z)) else (bif ((Pln.Kind p) == 8) then (andThen (inul_l3 (inul_r fuel) p fl ((length (Pln.Cols p)) - 0 + 1) 0 ([] : List Bool)) (fun z => (fun (list : List Bool) => (list ++ ([false] : List Bool))) z)) else ((inul_r fuel) (getD (Pln.Kids p) 0 Pln.zero) fl))))))))

def inul (p : Pln) (fl : List (List Bool)) : (List Bool) := inul_r (SizeOf.sizeOf p + 1) p fl

def inul_spn (fuel : Nat) : FnSpec := mkSpec [.rd (.named 2), .val (.slice (.slice .bool))] [.own .bool] (fun (p : Pln) (fl : List (List Bool)) => (∃ ws, NPl ws fl p) ∧ SizeOf.sizeOf p < fuel) (fun (p : Pln) (fl : List (List Bool)) => [⟨(.slice .bool), (inul_r fuel p fl)⟩])

def inul_sp : FnSpec := mkSpec [.rd (.named 2), .val (.slice (.slice .bool))] [.own .bool] (fun (p : Pln) (fl : List (List Bool)) => ∃ ws, NPl ws fl p) (fun (p : Pln) (fl : List (List Bool)) => [⟨(.slice .bool), (inul p fl)⟩])

theorem iafter_eq (p : Pln) (kid : List Bool) : iafter p kid = (List.range' 0 kid.length).map (fun i => bif kid.getD i false then (bits .and .i64 (ioutcomes (p.Exprs.getD 0 Xpr.zero) ((st kid).set i 4)) 2 != 0) else false) := by
 show iafter_l0 p kid (kid.length - 0 + 1) 0 (replicate kid.length false) = _
 rw [set_loopF (d := false) (iafter_l0 p kid) kid.length (fun c i => bif kid.getD i false then (bits .and .i64 (ioutcomes (p.Exprs.getD 0 Xpr.zero) ((st kid).set i 4)) 2 != 0) else c)
  (fun k i out hl hi => by
   show (bif decide ((i : Int) < (length kid : Int)) then _ else _) = _; rw [lt_dec hi, cond_true, istatesOf_eq]
   cases hg : kid.getD i false with
   | true => rfl
   | false =>
    have : out.set i (out.getD i false) = out := by
     rw [List.getD_eq_getElem?_getD, List.getElem?_eq_getElem (by omega), Option.getD_some]; exact List.set_getElem_self _
    show iafter_l0 p kid k (i + 1) out = iafter_l0 p kid k (i + 1) (out.set i (out.getD i false))
    rw [this])
  (fun k i out hi => by
   show (bif decide ((i : Int) < (length kid : Int)) then _ else _) = _
   rw [ge_dec hi, cond_false]) _ _ _ (by omega) (by simp)]
 rw [List.take_zero, List.nil_append]; refine List.map_congr_left fun j hj => ?_
 have : (replicate kid.length false).getD j false = false := by
  rw [List.getD_eq_getElem?_getD]
  cases hq : (replicate kid.length false)[j]? with
  | none => rfl
  | some v => exact List.eq_of_mem_replicate (List.mem_of_getElem? hq)
 rw [this]

theorem inul_eq : ∀ (f : Nat) (p : Pln) (fl : List (List Bool)) (ws : List Int), NPl ws fl p → SizeOf.sizeOf p < f → inul_r f p fl = nuP f p fl := by
 intro f
 induction f with
 | zero => intro p fl ws _ h; omega
 | succ f ih =>
  intro p fl ws hN hs; obtain ⟨hO, hT, -⟩ := hN.1.pvn.of; have hpc := parts2 (Pln.Kind p); have hOk := hO.kids; have hOc := hO.kind; obtain ⟨w1, w2, w3, w4, w5⟩ := hN.1.wid; have hk : ∀ i, i < p.Kids.length → inul_r f (p.Kids.getD i Pln.zero) fl = nuP f (p.Kids.getD i Pln.zero) fl := fun i hi => ih _ _ _ (hN.kid hi) (by have := pkid_lt hi; omega); have hl : ∀ i, i < p.Kids.length → (length (nuP f (p.Kids.getD i Pln.zero) fl) : Int) = widthOf (p.Kids.getD i Pln.zero) ws := fun i hi => nuP_len f _ _ _ (hN.kid hi) (by have := pkid_lt hi; omega); unfold inul_r nuP andThen; by_cases h1 : p.Kind = 1
  ·
   rw [if_pos h1, show (p.Kind == 1) = true from beq_iff_eq.2 h1, cond_true]; unfold icopiedB
   cases hz : ((length (getD fl (Int.toNat p.Table) []) : Int) == 0) with
   | true =>
    have := eq_of_beq hz; rw [cond_true]; exact (List.length_eq_zero_iff.1 (by omega)).symm
   | false => rfl
  ·
   rw [if_neg h1, show (p.Kind == 1) = false from beq_false_of_ne h1, cond_false]; by_cases h2 : p.Kind = 2
   · rw [if_pos h2, show (p.Kind == 2) = true from beq_iff_eq.2 h2, cond_true, iafter_eq, hk 0 (by omega)]
   ·
    rw [if_neg h2, show (p.Kind == 2) = false from beq_false_of_ne h2, cond_false]; by_cases h3 : p.Kind = 3
    ·
     rw [if_pos h3, show (p.Kind == 3) = true from beq_iff_eq.2 h3, cond_true]
     rw [set_loopF (d := false) (inul_l0 (inul_r f) p fl) p.Exprs.length (fun _ i => bits .and .i64 (ioutcomes (p.Exprs.getD i Xpr.zero) (st (nuP f (p.Kids.getD 0 Pln.zero) fl))) 4 != 0)
      (fun k i out _ hi => by
       show (bif decide ((i : Int) < (length p.Exprs : Int)) then _ else _) = _
       rw [lt_dec hi, cond_true, istatesOf_eq, hk 0 (by omega)])
      (fun k i out hi => by
       show (bif decide ((i : Int) < (length p.Exprs : Int)) then _ else _) = _
       rw [ge_dec hi, cond_false]) _ _ _ (by omega) (by simp)]
     rfl
    ·
     rw [if_neg h3, show (p.Kind == 3) = false from beq_false_of_ne h3, cond_false]; by_cases h4 : p.Kind = 4
     · rw [if_pos h4, show (p.Kind == 4) = true from beq_iff_eq.2 h4, cond_true, hk 0 (by omega), hk 1 (by omega)]
     ·
      rw [if_neg h4, show (p.Kind == 4) = false from beq_false_of_ne h4, cond_false]; by_cases h5 : p.Kind = 5
      ·
       rw [if_pos h5, show (p.Kind == 5) = true from beq_iff_eq.2 h5, cond_true]
       rw [app_loop (inul_l1 (inul_r f) p fl) (length (inul_r f (p.Kids.getD 1 Pln.zero) fl)) (fun _ => true)
        (fun k i out hi => by
         show (bif decide ((i : Int) < (length (inul_r f (p.Kids.getD 1 Pln.zero) fl) : Int)) then _ else _) = _
         rw [lt_dec hi, cond_true])
        (fun k i out hi => by
         show (bif decide ((i : Int) < (length (inul_r f (p.Kids.getD 1 Pln.zero) fl) : Int)) then _ else _) = _
         rw [ge_dec hi, cond_false]) _ _ _ (by omega)]
       rw [hk 0 (by omega), hk 1 (by omega)]; rfl
      ·
       rw [if_neg h5, show (p.Kind == 5) = false from beq_false_of_ne h5, cond_false]; by_cases h6 : p.Kind = 6
       ·
        have e : length (inul_r f (p.Kids.getD 0 Pln.zero) fl) = length (inul_r f (p.Kids.getD 1 Pln.zero) fl) := by
         rw [hk 0 (by omega), hk 1 (by omega)]; have a0 := hl 0 (by omega); have a1 := hl 1 (by omega); have := (w4 h6).2; omega
        rw [if_pos h6, show (p.Kind == 6) = true from beq_iff_eq.2 h6, cond_true]
        rw [set_loopF (d := false) (inul_l2 (inul_r f) p fl) (length (inul_r f (p.Kids.getD 1 Pln.zero) fl)) (fun c i => bif c then true else getD (inul_r f (p.Kids.getD 1 Pln.zero) fl) i false)
         (fun k i out _ hi => by
          show (bif decide ((i : Int) < (length (inul_r f (p.Kids.getD 1 Pln.zero) fl) : Int)) then _ else _) = _
          rw [lt_dec hi, cond_true])
         (fun k i out hi => by
          show (bif decide ((i : Int) < (length (inul_r f (p.Kids.getD 1 Pln.zero) fl) : Int)) then _ else _) = _
          rw [ge_dec hi, cond_false]) _ _ _ (by omega) e]
        rw [← e, hk 0 (by omega), hk 1 (by omega)]; rfl
       ·
        rw [if_neg h6, show (p.Kind == 6) = false from beq_false_of_ne h6, cond_false]; by_cases h8 : p.Kind = 8
        ·
         rw [if_pos h8, show (p.Kind == 8) = true from beq_iff_eq.2 h8, cond_true]
         rw [app_loop (inul_l3 (inul_r f) p fl) p.Cols.length (fun i => (nuP f (p.Kids.getD 0 Pln.zero) fl).getD (Int.toNat (p.Cols.getD i 0)) false)
          (fun k i out hi => by
           show (bif decide ((i : Int) < (length p.Cols : Int)) then _ else _) = _
           rw [lt_dec hi, cond_true, hk 0 (by omega)])
          (fun k i out hi => by
           show (bif decide ((i : Int) < (length p.Cols : Int)) then _ else _) = _
           rw [ge_dec hi, cond_false]) _ _ _ (by omega)]
         rfl
        · rw [if_neg h8, show (p.Kind == 8) = false from beq_false_of_ne h8, cond_false, hk 0 (by omega)]

theorem inul_len {f : Nat} {p : Pln} {fl : List (List Bool)} {ws : List Int} (h : NPl ws fl p) (hs : SizeOf.sizeOf p < f) : (length (inul_r f p fl) : Int) = widthOf p ws := by
 rw [inul_eq f p fl ws h hs]; exact nuP_len f p fl ws h hs

theorem inul_okn (fuel : Nat) : FnOK Try.prog 80 (inul_spn fuel) := by
 induction fuel with
 | zero => exact FnOK.never Try.func80 (by kernel_rfl) rfl (fun _ _ h => absurd h.2 (Nat.not_lt_zero _))
 | succ fuel ih => ?_
 have hC : CtxOK Try.prog (mkCtx tyL [(80, (inul_spn fuel)), (105, ioutcomes_sp), (114, icopiedB_sp), (115, iafter_sp), (116, istatesOf_sp)]) := CtxOK.cons ih (CtxOK.cons ioutcomes_ok (CtxOK.cons icopiedB_ok (CtxOK.cons iafter_ok (CtxOK.cons istatesOf_ok (CtxOK.nil tyOK))))); refine FnOK.of_body Try.func80 (by kernel_rfl) rfl (C := (mkCtx tyL [(80, (inul_spn fuel)), (105, ioutcomes_sp), (114, icopiedB_sp), (115, iafter_sp), (116, istatesOf_sp)])) hC.ty (by kernel_rfl) ?_; intro (p : Pln) (fl : List (List Bool)) hwf hpre E; have hpre : (∃ ws, NPl ws fl p) ∧ SizeOf.sizeOf p < fuel + 1 := hpre; have hw_p : Wf ⟨(.named 2), (p : Pln)⟩ := hwf _ (List.Mem.head _); obtain ⟨hr_p_Kind, hr_p_Table, hl_p_Exprs, hl_p_Cols, hl_p_Kids⟩ := Pln.wfl hw_p; have hw_fl : Wf ⟨(.slice (.slice .bool)), (fl : List (List Bool))⟩ := hwf _ (List.Mem.tail _ (List.Mem.head _)); have hl_fl : (length fl : Int) ≤ 9223372036854775807 := hw_fl.len; obtain ⟨ws, hN⟩ := hpre.1; obtain ⟨hO, hT, -⟩ := hN.1.pvn.of; have hpc := parts2 (Pln.Kind p); have hOk := hO.kids; have hOc := hO.kind; have hFl := hN.2.1; have hb0 := widthOf_b (getD (Pln.Kids p) 0 Pln.zero) ws; have hb1 := widthOf_b (getD (Pln.Kids p) 1 Pln.zero) ws; have hs0 := hpre.2; have hk0 : ∀ _ : Unit, 0 < length (Pln.Kids p) → (length (inul_r fuel (getD (Pln.Kids p) 0 Pln.zero) fl) : Int) = widthOf (getD (Pln.Kids p) 0 Pln.zero) ws := fun _ hi => inul_len (hN.kid hi) (by have := pkid_lt hi; omega); have hk1 : ∀ _ : Unit, 1 < length (Pln.Kids p) → (length (inul_r fuel (getD (Pln.Kids p) 1 Pln.zero) fl) : Int) = widthOf (getD (Pln.Kids p) 1 Pln.zero) ws := fun _ hi => inul_len (hN.kid hi) (by have := pkid_lt hi; omega); have hOe := hO.exprs; have e0 : inul_r (fuel + 1) p fl = inul_r (fuel + 1) p fl := rfl; refine seq (r1U hC [0, 1] [] [] [] ?_); refine seq (seq (r1U hC [0, 1, 18] [] [(18, sB ((Pln.Kind p) == 1))] [] ?_)); refine cdE e0 ?_ ?_
 ·
  intro h1q e2; refine seq (r0 hC [4] [104] ⟨[(4, .arr 104 1)], [(104, .arr 1 .bool ((icopiedB (getD fl (Int.toNat (Pln.Table p)) [])) : List Bool))]⟩ [IX (Pln.Table p) (length fl : Int), ((length (getD fl (Int.toNat (Pln.Table p)) []) : Int) ≤ 1048576)] ?_ ?_)
  ·
   exact ⟨IX.of (by omega), (by have ht := hT (by omega); have h6 := hN.2.2 (Int.toNat (Pln.Table p)) (by omega); have hw := widthOf_b p ws; rw [hN.1.scan (by omega)] at hw; omega), trivial⟩
  exact ret (rS (.slice .bool) e2)
 ·
  intro h3q e4; refine kpU [0, 1] [] [] [] ?_; refine AW.skip (seq (r0U hC [0, 1, 5] [132] [(5, .arr 132 1)] [(132, .arr 1 .bool (((inul_r fuel) (getD (Pln.Kids p) 0 Pln.zero) fl) : List Bool))] [IX (0 : Int) (length (Pln.Kids p) : Int), ((∃ ws, NPl ws fl (getD (Pln.Kids p) 0 Pln.zero)) ∧ SizeOf.sizeOf (getD (Pln.Kids p) 0 Pln.zero) < fuel)] ?_ ?_))
  ·
   exact ⟨IX.of (by omega), (⟨⟨ws, hN.kid (by omega)⟩, Nat.lt_of_lt_of_le (pkid_lt (by omega)) (Nat.le_of_lt_succ hpre.2)⟩), trivial⟩
  refine seq (seq (r1U hC [0, 1, 5, 37] [132] [(37, sI (Pln.Kind p))] [] ?_)); refine block (seq (r1U hC [0, 1, 5, 37, 38] [132] [(38, sB ((Pln.Kind p) == 2))] [] ?_)); refine cdE e4 ?_ ?_
  ·
   intro h5q e6; refine seq (r0 hC [4] [168] ⟨[(4, .arr 168 1)], [(168, .arr 1 .bool ((iafter p ((inul_r fuel) (getD (Pln.Kids p) 0 Pln.zero) fl)) : List Bool))]⟩ [((length ((inul_r fuel) (getD (Pln.Kids p) 0 Pln.zero) fl) ≤ 6 ∧ 0 < length (Pln.Exprs p)) ∧ ∃ l, VE (length ((inul_r fuel) (getD (Pln.Kids p) 0 Pln.zero) fl) : Int) l (getD (Pln.Exprs p) 0 Xpr.zero))] ?_ ?_)
   ·
    exact ⟨(by have a := hk0 () (by omega); have hx := hOe (by omega); have hv := ValidExpr_iff.1 (allv_iff.1 (hN.1.exprs.1 (.inl (by omega))) 0 (by omega)); exact ⟨⟨by omega, by omega⟩, 8, by rw [a]; exact hv.2⟩), trivial⟩
   exact ret (rS (.slice .bool) e6)
  ·
   intro h7q e8; refine seq (r1U hC [0, 1, 5, 37, 43] [132] [(43, sB ((Pln.Kind p) == 3))] [] ?_); refine cdE e8 ?_ ?_
   ·
    intro h9q e10; refine seq (r0U hC [0, 6] [184] [(6, .arr 184 1)] [(184, .arr 1 (.int .i64) ((istatesOf ((inul_r fuel) (getD (Pln.Kids p) 0 Pln.zero) fl)) : List Int))] [(length ((inul_r fuel) (getD (Pln.Kids p) 0 Pln.zero) fl) ≤ 6)] ?_ ?_)
    ·
     exact ⟨(by (have a0 := hk0 () (by omega); omega)), trivial⟩
    refine seq (r0U hC [0, 6, 7] [184, 208] [(7, .arr 208 1)] [(208, .arr 1 .bool ((replicate (length (Pln.Exprs p)) false : List Bool) : List Bool))] [(0 ≤ (length (Pln.Exprs p) : Int) ∧ (length (Pln.Exprs p) : Int) ≤ (length (Pln.Exprs p) : Int) ∧ (length (Pln.Exprs p) : Int) ≤ 4294967296)] ?_ ?_)
    ·
     exact ⟨(by (have hw := hN.1.wid.2.1 (by omega); have hb := widthOf_b p ws; omega)), trivial⟩
    refine seq (seq (r1U hC [0, 6, 7, 57, 58] [184, 208] [(57, sI (length (Pln.Exprs p) : Int)), (58, sI 0)] [] ?_)); refine lpB (ζ := (List Bool)) (fun x => ⟨[(7, .arr 208 1)], [(208, .arr 1 .bool (x : List Bool))]⟩) (fun x => length x = length (Pln.Exprs p)) (fun x => x) (α := Nat × (List Bool)) (fun x => ⟨[(0, sR4 p), (6, .arr 184 1), (7, .arr 208 1), (57, sI (length (Pln.Exprs p) : Int)), (58, sI ((x.1 : Nat) : Int))], [(184, .arr 1 (.int .i64) ((istatesOf ((inul_r fuel) (getD (Pln.Kids p) 0 Pln.zero) fl)) : List Int)), (208, .arr 1 .bool (x.2 : List Bool))]⟩) (fun x => length x.2 = length (Pln.Exprs p)) (fun x => (length (Pln.Exprs p)) - x.1) (fun k x => inul_l0 (inul_r fuel) p fl k x.1 x.2) (0, (replicate (length (Pln.Exprs p)) false : List Bool)) (by kernel_rfl) ?_ ?_ ?_
    · simp
    ·
     intro x k25q hI0 hk23 e24; obtain ⟨v58, list⟩ := x; replace hI0 : length list = length (Pln.Exprs p) := hI0; refine seq (r1U hC [0, 6, 7, 57, 58, 59] [184, 208] [(59, sB (decide ((v58 : Int) < (length (Pln.Exprs p) : Int))))] [] ?_); refine seq (cdE e24 ?_ ?_)
     ·
      intro h26q e27; refine kpU [0, 6, 7, 57, 58] [184, 208] [] [] ?_; refine AW.skip (seq (block (seq (r1U hC [0, 6, 7, 8, 57, 58] [184, 208] [(8, sI (v58 : Int))] [] ?_)))); refine r0U hC [0, 6, 7, 57, 58] [184, 208] [] [(208, .arr 1 .bool ((set list v58 ((bits .and .i64 (ioutcomes (getD (Pln.Exprs p) v58 Xpr.zero) (istatesOf ((inul_r fuel) (getD (Pln.Kids p) 0 Pln.zero) fl))) 4) != 0)) : List Bool))] [IX (v58 : Int) (length (Pln.Exprs p) : Int), (VX (istatesOf ((inul_r fuel) (getD (Pln.Kids p) 0 Pln.zero) fl)) (getD (Pln.Exprs p) v58 Xpr.zero)), IX (v58 : Int) (length list : Int)] ?_ ?_
      ·
       exact ⟨IX.of (by omega), (by (first | rw [istatesOf_eq] | rw [statesOf_eq]); exact st_vx (n := 8) (by rw [hk0 () (by omega)]; exact (ValidExpr_iff.1 (allv_iff.1 (hN.1.exprs.1 (.inr (by omega))) _ (by omega))).2)), IX.of (by omega), trivial⟩
      refine r0U hC [0, 6, 7, 57, 58] [184, 208] [(58, sI ((v58 + 1 : Nat) : Int))] [] [R64 ((v58 + 1 : Nat) : Int)] ?_ ?_
      ·
       exact ⟨R64.of (by omega), trivial⟩
      refine bk (v58 + 1, (set list v58 ((bits .and .i64 (ioutcomes (getD (Pln.Exprs p) v58 Xpr.zero) (istatesOf ((inul_r fuel) (getD (Pln.Kids p) 0 Pln.zero) fl))) 4) != 0))) e27 hk23 ?_ ?_
      · simp only [lens] at *; omega
      · omega
     · intro h28q e29; refine kpU [7] [208] [] [] ?_; refine exit ?_; refine meet list (by kernel_rfl) ⟨?_, e29⟩; assumption
    · intro list hJ0 e30; have e31 := e10.trans (then_eq e30); refine seq (r1U hC [4] [208] [(4, .arr 208 1)] [] ?_); exact ret (rS (.slice .bool) e31)
   ·
    intro h32q e33; refine seq (r1U hC [0, 1, 5, 37, 76] [132] [(76, sB ((Pln.Kind p) == 4))] [] ?_); refine cdE e33 ?_ ?_
    ·
     intro h34q e35; refine seq (r0 hC [4] [132] ⟨[(4, .arr 132 1)], [(132, .arr 1 .bool ((((inul_r fuel) (getD (Pln.Kids p) 0 Pln.zero) fl) ++ ((inul_r fuel) (getD (Pln.Kids p) 1 Pln.zero) fl)) : List Bool))]⟩ [IX (1 : Int) (length (Pln.Kids p) : Int), ((∃ ws, NPl ws fl (getD (Pln.Kids p) 1 Pln.zero)) ∧ SizeOf.sizeOf (getD (Pln.Kids p) 1 Pln.zero) < fuel), ((length ((inul_r fuel) (getD (Pln.Kids p) 0 Pln.zero) fl) : Int) + (length ((inul_r fuel) (getD (Pln.Kids p) 1 Pln.zero) fl) : Int) ≤ 4294967296)] ?_ ?_)
     ·
      exact ⟨IX.of (by omega), (⟨⟨ws, hN.kid (by omega)⟩, Nat.lt_of_lt_of_le (pkid_lt (by omega)) (Nat.le_of_lt_succ hpre.2)⟩), (by (have a0 := hk0 () (by omega); have a1 := hk1 () (by omega); omega)), trivial⟩
     exact ret (rS (.slice .bool) e35)
    ·
     intro h36q e37; refine seq (r1U hC [0, 1, 5, 37, 87] [132] [(87, sB ((Pln.Kind p) == 5))] [] ?_); refine cdE e37 ?_ ?_
     ·
      intro h38q e39; refine seq (seq (r0U hC [5, 96, 97] [132] [(96, sI (length ((inul_r fuel) (getD (Pln.Kids p) 1 Pln.zero) fl) : Int)), (97, sI 0)] [] [IX (1 : Int) (length (Pln.Kids p) : Int), ((∃ ws, NPl ws fl (getD (Pln.Kids p) 1 Pln.zero)) ∧ SizeOf.sizeOf (getD (Pln.Kids p) 1 Pln.zero) < fuel)] ?_ ?_))
      ·
       exact ⟨IX.of (by omega), (⟨⟨ws, hN.kid (by omega)⟩, Nat.lt_of_lt_of_le (pkid_lt (by omega)) (Nat.le_of_lt_succ hpre.2)⟩), trivial⟩
      refine lpB (ζ := (List Bool)) (fun x => ⟨[(5, .arr 132 1)], [(132, .arr 1 .bool (x : List Bool))]⟩) (fun x => True) (fun x => x) (α := Nat × (List Bool)) (fun x => ⟨[(5, .arr 132 1), (96, sI (length ((inul_r fuel) (getD (Pln.Kids p) 1 Pln.zero) fl) : Int)), (97, sI ((x.1 : Nat) : Int))], [(132, .arr 1 .bool (x.2 : List Bool))]⟩) (fun x => length x.2 = length (inul_r fuel (getD (Pln.Kids p) 0 Pln.zero) fl) + x.1) (fun x => (length ((inul_r fuel) (getD (Pln.Kids p) 1 Pln.zero) fl)) - x.1) (fun k x => inul_l1 (inul_r fuel) p fl k x.1 x.2) (0, ((inul_r fuel) (getD (Pln.Kids p) 0 Pln.zero) fl)) (by kernel_rfl) ?_ ?_ ?_
      · simp
      ·
       intro x k54q hI1 hk52 e53; (obtain ⟨v97, first⟩ := x); refine seq (r1U hC [5, 96, 97, 98] [132] [(98, sB (decide ((v97 : Int) < (length ((inul_r fuel) (getD (Pln.Kids p) 1 Pln.zero) fl) : Int))))] [] ?_); refine seq (cdE e53 ?_ ?_)
       ·
        intro h55q e56; refine kpU [5, 96, 97] [132] [] [] ?_; refine AW.skip (seq (block (r0U hC [5, 96, 97] [132] [] [(132, .arr 1 .bool ((first ++ ([true] : List Bool)) : List Bool))] [((length first : Int) + (length ([true] : List Bool) : Int) ≤ 4294967296)] ?_ ?_)))
        ·
         exact ⟨(by (have a0 := hk0 () (by omega); have a1 := hk1 () (by omega); simp only [List.length_append, List.length_cons, List.length_nil] at *; omega)), trivial⟩
        refine r0U hC [5, 96, 97] [132] [(97, sI ((v97 + 1 : Nat) : Int))] [] [R64 ((v97 + 1 : Nat) : Int)] ?_ ?_
        ·
         exact ⟨R64.of (by (have a0 := hk0 () (by omega); have a1 := hk1 () (by omega); omega)), trivial⟩
        refine bk (v97 + 1, (first ++ ([true] : List Bool))) e56 hk52 ?_ ?_
        · simp only [lens] at *; omega
        · omega
       · intro h57q e58; refine kpU [5] [132] [] [] ?_; refine exit ?_; (refine meet first (by kernel_rfl) ⟨?_, e58⟩); exact trivial
      · (intro first hJ1 e59); have e60 := e39.trans (then_eq e59); refine seq (r1U hC [4] [132] [(4, .arr 132 1)] [] ?_); exact ret (rS (.slice .bool) e60)
     ·
      intro h61q e62; refine seq (r1U hC [0, 1, 5, 37, 104] [132] [(104, sB ((Pln.Kind p) == 6))] [] ?_); refine cdE e62 ?_ ?_
      ·
       intro h63q e64; refine seq (seq (r0 hC [5, 112, 113, 114] [132, 448] ⟨[(5, .arr 132 1), (112, .arr 448 1), (113, sI (length ((inul_r fuel) (getD (Pln.Kids p) 1 Pln.zero) fl) : Int)), (114, sI 0)], [(132, .arr 1 .bool (((inul_r fuel) (getD (Pln.Kids p) 0 Pln.zero) fl) : List Bool)), (448, .arr 1 .bool (((inul_r fuel) (getD (Pln.Kids p) 1 Pln.zero) fl) : List Bool))]⟩ [IX (1 : Int) (length (Pln.Kids p) : Int), ((∃ ws, NPl ws fl (getD (Pln.Kids p) 1 Pln.zero)) ∧ SizeOf.sizeOf (getD (Pln.Kids p) 1 Pln.zero) < fuel)] ?_ ?_))
       ·
        exact ⟨IX.of (by omega), (⟨⟨ws, hN.kid (by omega)⟩, Nat.lt_of_lt_of_le (pkid_lt (by omega)) (Nat.le_of_lt_succ hpre.2)⟩), trivial⟩
       refine lpB (ζ := (List Bool)) (fun x => ⟨[(5, .arr 132 1)], [(132, .arr 1 .bool (x : List Bool))]⟩) (fun x => length x = length (inul_r fuel (getD (Pln.Kids p) 0 Pln.zero) fl)) (fun x => x) (α := Nat × (List Bool)) (fun x => ⟨[(5, .arr 132 1), (112, .arr 448 1), (113, sI (length ((inul_r fuel) (getD (Pln.Kids p) 1 Pln.zero) fl) : Int)), (114, sI ((x.1 : Nat) : Int))], [(132, .arr 1 .bool (x.2 : List Bool)), (448, .arr 1 .bool (((inul_r fuel) (getD (Pln.Kids p) 1 Pln.zero) fl) : List Bool))]⟩) (fun x => length x.2 = length (inul_r fuel (getD (Pln.Kids p) 0 Pln.zero) fl)) (fun x => (length ((inul_r fuel) (getD (Pln.Kids p) 1 Pln.zero) fl)) - x.1) (fun k x => inul_l2 (inul_r fuel) p fl k x.1 x.2) (0, ((inul_r fuel) (getD (Pln.Kids p) 0 Pln.zero) fl)) (by kernel_rfl) ?_ ?_ ?_
       · simp
       ·
        intro x k79q hI2 hk77 e78; (obtain ⟨v114, first⟩ := x); (replace hI2 : length first = length (inul_r fuel (getD (Pln.Kids p) 0 Pln.zero) fl) := hI2); refine seq (r1U hC [5, 112, 113, 114, 115] [132, 448] [(115, sB (decide ((v114 : Int) < (length ((inul_r fuel) (getD (Pln.Kids p) 1 Pln.zero) fl) : Int))))] [] ?_); refine seq (cdE e78 ?_ ?_)
        ·
         intro h80q e81; refine kpU [5, 112, 113, 114] [132, 448] [] [] ?_; refine AW.skip (seq (block (seq (r0U hC [5, 9, 10, 112, 113, 114] [132, 448] [(9, sI (v114 : Int)), (10, sB (getD ((inul_r fuel) (getD (Pln.Kids p) 1 Pln.zero) fl) v114 false))] [] [IX (v114 : Int) (length ((inul_r fuel) (getD (Pln.Kids p) 1 Pln.zero) fl) : Int)] ?_ ?_))))
         ·
          exact ⟨IX.of (by omega), trivial⟩
         refine r0U hC [5, 112, 113, 114] [132, 448] [] [(132, .arr 1 .bool ((set first v114 (bif (getD first v114 false) then true else (getD ((inul_r fuel) (getD (Pln.Kids p) 1 Pln.zero) fl) v114 false))) : List Bool))] [IX (v114 : Int) (length first : Int), (((getD first v114 false) = false) → (((getD first v114 false) = false))), IX (v114 : Int) (length first : Int)] ?_ ?_
         ·
          exact ⟨IX.of (by (have a0 := hk0 () (by omega); have a1 := hk1 () (by omega); have hw := (hN.1.wid.2.2.2.1 (by omega)).2; omega)), (by intro g82; assumption), IX.of (by (have a0 := hk0 () (by omega); have a1 := hk1 () (by omega); have hw := (hN.1.wid.2.2.2.1 (by omega)).2; omega)), trivial⟩
         refine r0U hC [5, 112, 113, 114] [132, 448] [(114, sI ((v114 + 1 : Nat) : Int))] [] [R64 ((v114 + 1 : Nat) : Int)] ?_ ?_
         ·
          exact ⟨R64.of (by (have a0 := hk0 () (by omega); have a1 := hk1 () (by omega); omega)), trivial⟩
         refine bk (v114 + 1, (set first v114 (bif (getD first v114 false) then true else (getD ((inul_r fuel) (getD (Pln.Kids p) 1 Pln.zero) fl) v114 false)))) e81 hk77 ?_ ?_
         · simp only [lens] at *; omega
         · omega
        · intro h83q e84; refine kpU [5] [132] [] [] ?_; refine exit ?_; (refine meet first (by kernel_rfl) ⟨?_, e84⟩); assumption
       · (intro first hJ2 e85); have e86 := e64.trans (then_eq e85); refine seq (r1U hC [4] [132] [(4, .arr 132 1)] [] ?_); exact ret (rS (.slice .bool) e86)
      ·
       intro h87q e88; refine seq (r1 hC [0, 5, 131] [132] ⟨[(0, sR4 p), (5, .arr 132 1), (131, sB ((Pln.Kind p) == 8))], [(132, .arr 1 .bool (((inul_r fuel) (getD (Pln.Kids p) 0 Pln.zero) fl) : List Bool))]⟩ ?_); refine cdE e88 ?_ ?_
       ·
        intro h89q e90; refine seq (r1U hC [0, 5, 11] [132] [(11, .nilsl)] [] ?_); refine seq (seq (r1U hC [5, 11, 136, 137, 138] [132] [(136, sD7 (Pln.Cols p)), (137, sI (length (Pln.Cols p) : Int)), (138, sI 0)] [] ?_)); refine AW.adopt 11 592 .bool (by kernel_rfl) (by kernel_rfl) ?_; refine kp [5, 11, 136, 137, 138] [132, 592] ⟨[(5, .arr 132 1), (11, .arr 592 1), (136, sD7 (Pln.Cols p)), (137, sI (length (Pln.Cols p) : Int)), (138, sI 0)], [(132, .arr 1 .bool (((inul_r fuel) (getD (Pln.Kids p) 0 Pln.zero) fl) : List Bool)), (592, .arr 1 .bool (([] : List Bool) : List Bool))]⟩ ?_; refine lpB (ζ := (List Bool)) (fun x => ⟨[(11, .arr 592 1)], [(592, .arr 1 .bool (x : List Bool))]⟩) (fun x => length x = length (Pln.Cols p)) (fun x => x) (α := Nat × (List Bool)) (fun x => ⟨[(5, .arr 132 1), (11, .arr 592 1), (136, sD7 (Pln.Cols p)), (137, sI (length (Pln.Cols p) : Int)), (138, sI ((x.1 : Nat) : Int))], [(132, .arr 1 .bool (((inul_r fuel) (getD (Pln.Kids p) 0 Pln.zero) fl) : List Bool)), (592, .arr 1 .bool (x.2 : List Bool))]⟩) (fun x => length x.2 = x.1 ∧ x.1 ≤ length (Pln.Cols p)) (fun x => (length (Pln.Cols p)) - x.1) (fun k x => inul_l3 (inul_r fuel) p fl k x.1 x.2) (0, ([] : List Bool)) (by kernel_rfl) ?_ ?_ ?_
        · refine ⟨?_, ?_⟩ <;> first | omega | simp
        ·
         intro x k109q hI3 hk107 e108; obtain ⟨v138, list⟩ := x; replace hI3 : length list = v138 ∧ v138 ≤ length (Pln.Cols p) := hI3; refine seq (r1U hC [5, 11, 136, 137, 138, 139] [132, 592] [(139, sB (decide ((v138 : Int) < (length (Pln.Cols p) : Int))))] [] ?_); refine seq (cdE e108 ?_ ?_)
         ·
          intro h110q e111; refine kpU [5, 11, 136, 137, 138] [132, 592] [] [] ?_; refine AW.skip (seq (block (seq (r0U hC [5, 11, 13, 136, 137, 138] [132, 592] [(13, sI (getD (Pln.Cols p) v138 0))] [] [IX (v138 : Int) (length (Pln.Cols p) : Int)] ?_ ?_))))
          ·
           exact ⟨IX.of (by omega), trivial⟩
          refine r0U hC [5, 11, 136, 137, 138] [132, 592] [] [(592, .arr 1 .bool ((list ++ ([(getD ((inul_r fuel) (getD (Pln.Kids p) 0 Pln.zero) fl) (Int.toNat (getD (Pln.Cols p) v138 0)) false)] : List Bool)) : List Bool))] [IX (getD (Pln.Cols p) v138 0) (length ((inul_r fuel) (getD (Pln.Kids p) 0 Pln.zero) fl) : Int), ((length list : Int) + (length ([(getD ((inul_r fuel) (getD (Pln.Kids p) 0 Pln.zero) fl) (Int.toNat (getD (Pln.Cols p) v138 0)) false)] : List Bool) : Int) ≤ 4294967296)] ?_ ?_
          ·
           refine ⟨?_, ?_, trivial⟩
           ·
            refine IX.of ?_; have hv := (vgc_iff.1 (hN.1.wid.2.2.2.2 (by omega)).2).2; have a := hk0 () (by omega); first
            | (have := (hv v138 (by omega)).1; omega)
            | (have := (hv i (by omega)).1; omega)
           · (have a0 := hk0 () (by omega); have hw := hN.1.wid.2.2.2.2 (by omega); have hb := widthOf_b p ws; simp only [List.length_append, List.length_cons, List.length_nil] at *; omega)
          refine r0U hC [5, 11, 136, 137, 138] [132, 592] [(138, sI ((v138 + 1 : Nat) : Int))] [] [R64 ((v138 + 1 : Nat) : Int)] ?_ ?_
          ·
           exact ⟨R64.of (by omega), trivial⟩
          refine bk (v138 + 1, (list ++ ([(getD ((inul_r fuel) (getD (Pln.Kids p) 0 Pln.zero) fl) (Int.toNat (getD (Pln.Cols p) v138 0)) false)] : List Bool))) e111 hk107 ?_ ?_
          · refine ⟨?_, ?_⟩ <;> first | omega | (simp only [lens] at *; omega)
          · omega
         · intro h112q e113; refine kpU [11] [592] [] [] ?_; refine exit ?_; refine meet list (by kernel_rfl) ⟨?_, e113⟩; omega
        ·
         intro list hJ3 e114; have e115 := e90.trans (then_eq e114); refine seq (r0 hC [4] [592] ⟨[(4, .arr 592 1)], [(592, .arr 1 .bool ((list ++ ([false] : List Bool)) : List Bool))]⟩ [((length list : Int) + (length ([false] : List Bool) : Int) ≤ 4294967296)] ?_ ?_)
         ·
          exact ⟨(by (have a0 := hk0 () (by omega); have hw := hN.1.wid.2.2.2.2 (by omega); have hb := widthOf_b p ws; simp only [List.length_append, List.length_cons, List.length_nil] at *; omega)), trivial⟩
         exact ret (rS (.slice .bool) e115)
       · intro h116q e117; refine kpU [5] [132] [] [] ?_; refine AW.skip (seq (r1U hC [4] [132] [(4, .arr 132 1)] [] ?_)); exact ret (rS (.slice .bool) e117)

theorem inul_fu : AllTV (inul_sp.ps.map PK.ty) (fun tvs => inul_sp.pre tvs → ∃ k, (inul_spn k).pre tvs ∧ (inul_spn k).fn tvs = inul_sp.fn tvs ∧ (inul_spn k).bx tvs = inul_sp.bx tvs) :=
 (fun (p : Pln) (fl : List (List Bool)) h => ⟨SizeOf.sizeOf p + 1, (show (∃ ws, NPl ws fl p) ∧ SizeOf.sizeOf p < SizeOf.sizeOf p + 1 from ⟨h, Nat.lt_succ_self _⟩), (show (inul_spn (SizeOf.sizeOf p + 1)).fn [⟨(.named 2), (p : Pln)⟩, ⟨(.slice (.slice .bool)), (fl : List (List Bool))⟩] = ([⟨(.slice .bool), (inul_r (SizeOf.sizeOf p + 1) p fl)⟩] : List TV) from by kernel_rfl).trans (show ([⟨(.slice .bool), (inul_r (SizeOf.sizeOf p + 1) p fl)⟩] : List TV) = inul_sp.fn [⟨(.named 2), (p : Pln)⟩, ⟨(.slice (.slice .bool)), (fl : List (List Bool))⟩] from by kernel_rfl), by kernel_rfl⟩)

theorem inul_ok : FnOK Try.prog 80 inul_sp := FnOK.of_fuel inul_okn (fun _ => rfl) (fun _ => rfl) (AllTV.get inul_fu)

end
end Go.Proofs.Ytodcdgolcbdkgaa
