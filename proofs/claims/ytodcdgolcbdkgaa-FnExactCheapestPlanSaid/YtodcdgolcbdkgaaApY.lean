/-
  A part of the proof of this claim (ApY): what functions of the program compute, and plain facts of that. No conditions.
-/
import Derived.Test.YtodcdgolcbdkgaaApX
set_option linter.all false
namespace Go.Proofs.Ytodcdgolcbdkgaa
open Go Go.Am
noncomputable section

def PE (stats : List Sta) (p : Pln) (c : Cel) : Prop := ∃ l, PSt stats l p ∧ 0 ≤ c.v ∧ c.v + ctop l ≤ 1000000000000000000

theorem le_mul3 {x f : Int} (hx : 0 ≤ x) (hf : 0 ≤ f ∧ f ≤ 1000) : 0 ≤ x * f ∧ x * f ≤ 1000 * x := by
 refine ⟨Int.mul_nonneg hx hf.1, ?_⟩
 have := Int.mul_le_mul (Int.le_refl x) hf.2 hf.1 hx
 omega

theorem minB {x : Int} (h : 0 ≤ x) : 0 ≤ (if 1000000000 < x then 1000000000 else x) ∧ (if 1000000000 < x then 1000000000 else x) ≤ 1000000000 := by
 split <;> omega

def rem (r : Nat) (x : Int) : Int := if r = 0 then 0 else if r = 1 then x else 2 * x

theorem PSt.two {stats : List Sta} {l : Nat} {p : Pln} (h : PSt stats l p) : p.Kids.length ≤ 2 := by
 obtain ⟨hO, -, -⟩ := h.pvw.pvn.of
 have := parts2 p.Kind
 have := hO.kids
 omega

structure EIl (stats : List Sta) (p : Pln) (c : Int) (l i : Nat) (c1 : Int) (ar : List Int) : Prop where
 ps : PSt stats l p
 ar : List.length ar = 2 ∧ ∀ j, 0 ≤ List.getD ar j 0 ∧ List.getD ar j 0 ≤ 1000000000
 lo : 0 ≤ c ∧ c ≤ c1
 hi : c1 + rem (p.Kids.length - i) (ctop (l - 1)) + 1000000000 ≤ c + ctop l

theorem arB_set {ar : List Int} {i : Nat} {x : Int} (h : List.length ar = 2 ∧ ∀ j, 0 ≤ List.getD ar j 0 ∧ List.getD ar j 0 ≤ 1000000000) (hx : 0 ≤ x ∧ x ≤ 1000000000) :
  List.length (List.set ar i x) = 2 ∧ ∀ j, 0 ≤ List.getD (List.set ar i x) j 0 ∧ List.getD (List.set ar i x) j 0 ≤ 1000000000 := by
 refine ⟨by rw [List.length_set]; exact h.1, fun j => ?_⟩
 by_cases hj : j < ar.length
 ·
  rw [getD_set_int _ _ _ _ hj]
  split
  ·
   exact hx
  ·
   exact h.2 j
 ·
  rw [List.getD_eq_getElem?_getD, List.getElem?_eq_none (by rw [List.length_set]; omega)]
  simp

theorem EIl.init {stats : List Sta} {p : Pln} {c : Int} {l : Nat} (h : PSt stats l p) (hc : 0 ≤ c) : EIl stats p c l 0 c (List.replicate 2 0) := by
 refine ⟨h, ⟨rfl, fun j => ?_⟩, ⟨hc, Int.le_refl _⟩, ?_⟩
 ·
  match j with
  | 0 | 1 | _ + 2 => simp
 ·
  have h2 := h.two
  have hp := ctop_pos l
  unfold rem
  by_cases h0 : p.Kids.length = 0
  ·
   rw [if_pos (by omega)]; omega
  ·
   obtain ⟨h1, -⟩ := h.kid (i := 0) (by omega)
   have hs := ctop_succ (l - 1)
   rw [show l - 1 + 1 = l by omega] at hs
   have := ctop_pos (l - 1)
   rw [if_neg (by omega)]
   split <;> omega

theorem EIl.pre {stats : List Sta} {p : Pln} {c : Int} {l i : Nat} {c1 : Int} {ar : List Int} (h : EIl stats p c l i c1 ar) (hi : i < p.Kids.length) (hcap : c + ctop l ≤ 1000000000000000000) : PE stats (p.Kids.getD i Pln.zero) (Cel.mk c1) := by
 obtain ⟨h1, h2⟩ := h.ps.kid hi
 have a := h.hi
 have b := h.lo
 have hp := ctop_pos (l - 1)
 unfold rem at a
 rw [if_neg (by omega)] at a
 refine ⟨l - 1, h2, ?_, ?_⟩
 ·
  show 0 ≤ c1
  omega
 ·
  show c1 + ctop (l - 1) ≤ _
  split at a <;> omega

def iest_l0 (self : Pln → (List Sta) → Cel → (Int × Cel)) (p : Pln) (stats : List Sta) : Nat → Nat → Int → (List Int) → Int × (List Int)
 | 0, v16, cost1, ar28 => (cost1, ar28)
 | k + 1, v16, cost1, ar28 => (bif (decide (((v16 : Nat) : Int) < ((List.length (Pln.Kids p) : Nat) : Int))) then (iest_l0 self p stats k (v16 + 1) (Cel.v ((self (List.getD (Pln.Kids p) v16 Pln.zero) stats (Cel.mk cost1)).2)) (List.set ar28 v16 ((self (List.getD (Pln.Kids p) v16 Pln.zero) stats (Cel.mk cost1)).1))) else (cost1, ar28))

def iest_j0 (p : Pln) (stats : List Sta) : Int :=
 (bif ((Pln.Kind (List.getD (Pln.Kids p) 0 Pln.zero)) == 1) then (selectivity (List.getD (Pln.Exprs p) 0 Xpr.zero) (List.getD stats (Int.toNat (Pln.Table (List.getD (Pln.Kids p) 0 Pln.zero))) Sta.zero)) else (ifixed (List.getD (Pln.Exprs p) 0 Xpr.zero)))

def iest_j1 (p : Pln) : Bool :=
 (bif ((Pln.Kind p) == 4) then ((Pln.Kind p) == 4) else ((Pln.Kind p) == 5))

def iest_j2 (p : Pln) (ar28 : List Int) : Int :=
 (bif ((Pln.Kind p) == 5) then (if (List.getD ar28 0 0) > (((if 1000000000 < ((List.getD ar28 0 0) * (List.getD ar28 1 0)) then 1000000000 else ((List.getD ar28 0 0) * (List.getD ar28 1 0))) * (ifixed (List.getD (Pln.Exprs p) 0 Xpr.zero))) / 1000) then (List.getD ar28 0 0) else (((if 1000000000 < ((List.getD ar28 0 0) * (List.getD ar28 1 0)) then 1000000000 else ((List.getD ar28 0 0) * (List.getD ar28 1 0))) * (ifixed (List.getD (Pln.Exprs p) 0 Xpr.zero))) / 1000)) else (((if 1000000000 < ((List.getD ar28 0 0) * (List.getD ar28 1 0)) then 1000000000 else ((List.getD ar28 0 0) * (List.getD ar28 1 0))) * (ifixed (List.getD (Pln.Exprs p) 0 Xpr.zero))) / 1000))

def iest_j3 (p : Pln) (ar28 : List Int) : Int :=
 (bif (((List.length (Pln.Cols p) : Nat) : Int) == 0) then (if 1 < (List.getD ar28 0 0) then 1 else (List.getD ar28 0 0)) else (List.getD ar28 0 0))

def iest_j4 (p : Pln) (ar28 : List Int) : Int :=
 (bif ((Pln.Kind p) == 8) then (Go.Am.andThen (iest_j3 p ar28) (fun z => (fun (rows : Int) => rows) z)) else (List.getD ar28 0 0))

def iest_j5 (p : Pln) (ar28 : List Int) : Int :=
 (bif ((Pln.Kind p) == 6) then (if 1000000000 < ((List.getD ar28 0 0) + (List.getD ar28 1 0)) then 1000000000 else ((List.getD ar28 0 0) + (List.getD ar28 1 0))) else (Go.Am.andThen (iest_j4 p ar28) (fun z => (fun (rows : Int) => rows) z)))

def iest_j6 (p : Pln) (ar28 : List Int) (v82 : Bool) : Int :=
 (bif v82 then (Go.Am.andThen (iest_j2 p ar28) (fun z => (fun (rows : Int) => rows) z)) else (Go.Am.andThen (iest_j5 p ar28) (fun z => (fun (rows : Int) => rows) z)))

def iest_j7 (p : Pln) (stats : List Sta) (ar28 : List Int) : Int :=
 (bif ((Pln.Kind p) == 2) then (Go.Am.andThen (iest_j0 p stats) (fun z => (fun (permille : Int) => (((List.getD ar28 0 0) * permille) / 1000)) z)) else (Go.Am.andThen (iest_j1 p) (fun z => (fun (v82 : Bool) => (Go.Am.andThen (iest_j6 p ar28 v82) (fun z => (fun (rows : Int) => rows) z))) z)))

def iest_j8 (p : Pln) (stats : List Sta) (ar28 : List Int) : Int :=
 (bif ((Pln.Kind p) == 1) then (Sta.Rows (List.getD stats (Int.toNat (Pln.Table p)) Sta.zero)) else (Go.Am.andThen (iest_j7 p stats ar28) (fun z => (fun (rows : Int) => rows) z)))

def iest_r : Nat → Pln → (List Sta) → Cel → (Int × Cel)
 | 0, p, stats, cost => (0, Cel.zero)
 | fuel + 1, p, stats, cost => (Go.Am.andThen (iest_l0 (iest_r fuel) p stats ((List.length (Pln.Kids p)) - 0 + 1) 0 (Cel.v cost) (List.replicate 2 0)) (fun z => (fun (cost1 : Int) (ar28 : List Int) => (Go.Am.andThen (iest_j8 p stats ar28) (fun z => (fun (rows : Int) => (rows, (Cel.mk (cost1 + rows)))) z))) z.1 z.2))

def iest (p : Pln) (stats : List Sta) (cost : Cel) : Int × Cel := iest_r (SizeOf.sizeOf p + 1) p stats cost

def iest_spn (fuel : Nat) : FnSpec := mkSpecB [.rd (.named 2), .val (.slice (.named 3)), .box 4] [.val (.int .i64)] (fun (p : Pln) (stats : List Sta) (cost : Cel) => (PE stats p cost) ∧ SizeOf.sizeOf p < fuel) (fun (p : Pln) (stats : List Sta) (cost : Cel) => [⟨(.int .i64), ((iest_r fuel p stats cost).1)⟩]) (fun (p : Pln) (stats : List Sta) (cost : Cel) => [⟨(.named 4), ((iest_r fuel p stats cost).2)⟩])

def iest_sp : FnSpec := mkSpecB [.rd (.named 2), .val (.slice (.named 3)), .box 4] [.val (.int .i64)] (fun (p : Pln) (stats : List Sta) (cost : Cel) => PE stats p cost) (fun (p : Pln) (stats : List Sta) (cost : Cel) => [⟨(.int .i64), ((iest p stats cost).1)⟩]) (fun (p : Pln) (stats : List Sta) (cost : Cel) => [⟨(.named 4), ((iest p stats cost).2)⟩])

def BStep (f : Nat) (stats : List Sta) : Prop := ∀ (p : Pln) (l : Nat) (c : Cel), PSt stats l p → SizeOf.sizeOf p < f → 0 ≤ c.v → (0 ≤ (iest_r f p stats c).1 ∧ (iest_r f p stats c).1 ≤ 1000000000) ∧ c.v ≤ (iest_r f p stats c).2.v ∧ (iest_r f p stats c).2.v ≤ c.v + ctop l

theorem EIl.step {f : Nat} {stats : List Sta} {p : Pln} {c : Int} {l i : Nat} {c1 : Int} {ar : List Int} (h : EIl stats p c l i c1 ar) (hi : i < p.Kids.length) (hs : SizeOf.sizeOf p < f + 1) (hb : BStep f stats) :
  EIl stats p c l (i + 1) (Cel.v ((iest_r f (List.getD (Pln.Kids p) i Pln.zero) stats (Cel.mk c1)).2)) (List.set ar i ((iest_r f (List.getD (Pln.Kids p) i Pln.zero) stats (Cel.mk c1)).1)) := by
 obtain ⟨h1, h2⟩ := h.ps.kid hi
 have a := h.hi
 have b := h.lo
 have h2l := h.ps.two
 have hp := ctop_pos (l - 1)
 have hlt := pkid_lt hi
 obtain ⟨r1, r2⟩ := hb _ (l - 1) (Cel.mk c1) h2 (by omega) (by show 0 ≤ c1; omega)
 have r2' : c1 ≤ (iest_r f (List.getD (Pln.Kids p) i Pln.zero) stats (Cel.mk c1)).2.v ∧ (iest_r f (List.getD (Pln.Kids p) i Pln.zero) stats (Cel.mk c1)).2.v ≤ c1 + ctop (l - 1) := r2
 refine ⟨h.ps, arB_set h.ar r1, ⟨b.1, by omega⟩, ?_⟩
 unfold rem at a ⊢
 rw [if_neg (by omega)] at a
 by_cases hn : p.Kids.length - i = 1
 ·
  rw [if_pos hn] at a
  rw [if_pos (by omega)]
  omega
 ·
  rw [if_neg hn] at a
  rw [if_neg (by omega), if_pos (by omega)]
  omega

theorem PSt.vx {stats : List Sta} {l : Nat} {p : Pln} (h : PSt stats l p) (hk : p.Kind = 2 ∨ p.Kind = 4 ∨ p.Kind = 5) : 0 < p.Exprs.length ∧ ∃ w, VXn w (List.getD p.Exprs 0 Xpr.zero) := by
 obtain ⟨hO, -, -⟩ := h.pvw.pvn.of
 have := parts2 p.Kind
 have := hO.exprs
 have hx := h.pvw.exprs
 have h0 : 0 < p.Exprs.length := by omega
 refine ⟨h0, ?_⟩
 by_cases h2 : p.Kind = 2
 ·
  exact ⟨_, 8, (ValidExpr_iff.1 (allv_iff.1 (hx.1 (.inl h2)) 0 h0)).2⟩
 ·
  exact ⟨_, 8, (ValidExpr_iff.1 (allv_iff.1 (hx.2 (by omega)) 0 h0)).2⟩

theorem PSt.table {stats : List Sta} {l : Nat} {p : Pln} (h : PSt stats l p) (hk : p.Kind = 1) : (0 ≤ p.Table ∧ p.Table < ((stats.length : Nat) : Int)) ∧ VSt (List.getD stats p.Table.toNat Sta.zero) := by
 obtain ⟨-, hT, -⟩ := h.pvw.pvn.of
 have ht := hT hk
 rw [statsWidths_len] at ht
 exact ⟨ht, h.1 _ (by omega)⟩

theorem PSt.sel {stats : List Sta} {l : Nat} {p : Pln} (h : PSt stats l p) (hk : p.Kind = 2) (hk0 : (List.getD p.Kids 0 Pln.zero).Kind = 1) :
  VSt (List.getD stats (Int.toNat (Pln.Table (List.getD (Pln.Kids p) 0 Pln.zero))) Sta.zero) ∧ VXn (((List.getD stats (Int.toNat (Pln.Table (List.getD (Pln.Kids p) 0 Pln.zero))) Sta.zero).Distinct.length : Nat) : Int) (List.getD p.Exprs 0 Xpr.zero) := by
 obtain ⟨hO, -, -⟩ := h.pvw.pvn.of
 have := parts2 p.Kind
 have := hO.kids
 have hkid := (h.kid (i := 0) (by omega)).2
 obtain ⟨t1, t2⟩ := hkid.table hk0
 refine ⟨t2, 8, ?_⟩
 have e := hkid.pvw.scan hk0
 rw [statsWidths_get (by omega)] at e
 rw [← e]
 exact (ValidExpr_iff.1 (allv_iff.1 (h.pvw.exprs.1 (.inl hk)) 0 (h.vx (.inl hk)).1)).2

theorem ifixed_bb (e : Xpr) : 0 ≤ ifixed e ∧ ifixed e ≤ 1000 := ifixed_b _ e

theorem j0_b {stats : List Sta} {l : Nat} {p : Pln} (h : PSt stats l p) (hk : p.Kind = 2) : 0 ≤ iest_j0 p stats ∧ iest_j0 p stats ≤ 1000 := by
 unfold iest_j0
 by_cases hk0 : (List.getD p.Kids 0 Pln.zero).Kind = 1
 ·
  rw [show ((List.getD p.Kids 0 Pln.zero).Kind == 1) = true from beq_iff_eq.2 hk0, cond_true]
  obtain ⟨s1, s2⟩ := h.sel hk hk0
  exact selectivity_b s1 _ _ s2
 ·
  rw [show ((List.getD p.Kids 0 Pln.zero).Kind == 1) = false from beq_false_of_ne hk0, cond_false]
  exact ifixed_bb _

theorem j8_b {stats : List Sta} {l : Nat} {p : Pln} {ar : List Int} (h : PSt stats l p) (ha : ∀ j, 0 ≤ List.getD ar j 0 ∧ List.getD ar j 0 ≤ 1000000000) : 0 ≤ iest_j8 p stats ar ∧ iest_j8 p stats ar ≤ 1000000000 := by
 have a0 := ha 0
 have a1 := ha 1
 unfold iest_j8 iest_j7 iest_j6 iest_j5 iest_j4 iest_j3 iest_j2 iest_j1
 simp only [Go.Am.andThen]
 by_cases h1 : p.Kind = 1
 ·
  rw [show (p.Kind == 1) = true from beq_iff_eq.2 h1, cond_true]
  have := (h.table h1).2.rows
  omega
 ·
  rw [show (p.Kind == 1) = false from beq_false_of_ne h1, cond_false]
  by_cases h2 : p.Kind = 2
  ·
   rw [show (p.Kind == 2) = true from beq_iff_eq.2 h2, cond_true]
   have := le_mul3 a0.1 (j0_b h h2)
   omega
  ·
   rw [show (p.Kind == 2) = false from beq_false_of_ne h2, cond_false]
   have m := le_mul a0 a1
   have fx := ifixed_bb (List.getD (Pln.Exprs p) 0 Xpr.zero)
   have hm : 0 ≤ (if 1000000000 < ((List.getD ar 0 0) * (List.getD ar 1 0)) then 1000000000 else ((List.getD ar 0 0) * (List.getD ar 1 0))) ∧ (if 1000000000 < ((List.getD ar 0 0) * (List.getD ar 1 0)) then 1000000000 else ((List.getD ar 0 0) * (List.getD ar 1 0))) ≤ 1000000000 := by
    split <;> omega
   generalize (if 1000000000 < ((List.getD ar 0 0) * (List.getD ar 1 0)) then 1000000000 else ((List.getD ar 0 0) * (List.getD ar 1 0))) = x at *
   have mx := le_mul3 hm.1 fx
   cases (bif p.Kind == 4 then p.Kind == 4 else p.Kind == 5) with
   | true =>
    rw [cond_true]
    cases (p.Kind == 5) with
    | true => rw [cond_true]; split <;> omega
    | false => rw [cond_false]; omega
   | false =>
    rw [cond_false]
    cases (p.Kind == 6) with
    | true => rw [cond_true]; split <;> omega
    | false =>
     rw [cond_false]
     cases (p.Kind == 8) with
     | false => exact a0
     | true =>
      rw [cond_true]
      cases (((List.length (Pln.Cols p) : Nat) : Int) == 0) with
      | false => exact a0
      | true => rw [cond_true]; split <;> omega

theorem iest_b (stats : List Sta) : ∀ f, BStep f stats := by
 intro f
 induction f with
 | zero => intro p l c h hs; omega
 | succ f ih =>
  intro p l c h hs hc
  have key : ∀ (k i : Nat) (c1 : Int) (ar : List Int), p.Kids.length - i < k → EIl stats p c.v l i c1 ar →
    EIl stats p c.v l p.Kids.length (iest_l0 (iest_r f) p stats k i c1 ar).1 (iest_l0 (iest_r f) p stats k i c1 ar).2 := by
   intro k
   induction k with
   | zero => intro i c1 ar hk; omega
   | succ k ihk =>
    intro i c1 ar hk he
    unfold iest_l0
    by_cases hi : i < p.Kids.length
    ·
     rw [lt_dec hi, cond_true]
     exact ihk _ _ _ (by omega) (he.step hi hs ih)
    ·
     rw [ge_dec hi, cond_false]
     refine ⟨he.ps, he.ar, he.lo, ?_⟩
     have := he.hi
     rw [show p.Kids.length - i = 0 by omega] at this
     rw [Nat.sub_self]
     exact this
  have e := key ((List.length (Pln.Kids p)) - 0 + 1) 0 c.v (List.replicate 2 0) (by omega) (EIl.init h hc)
  unfold iest_r
  simp only [Go.Am.andThen]
  generalize iest_l0 (iest_r f) p stats ((List.length (Pln.Kids p)) - 0 + 1) 0 c.v (List.replicate 2 0) = r at e
  have j := j8_b h e.ar.2
  have e1 := e.lo
  have e2 := e.hi
  rw [Nat.sub_self] at e2
  unfold rem at e2
  rw [if_pos rfl] at e2
  refine ⟨j, ?_, ?_⟩
  ·
   show c.v ≤ r.1 + iest_j8 p stats r.2
   omega
  ·
   show r.1 + iest_j8 p stats r.2 ≤ c.v + ctop l
   omega

theorem iest_okn (fuel : Nat) : FnOK Try.prog 110 (iest_spn fuel) := by
 induction fuel with
 | zero => exact FnOK.never Try.func110 (by kernel_rfl) rfl (fun _ _ _ h => absurd h.2 (Nat.not_lt_zero _))
 | succ fuel ih => ?_
 have hC : CtxOK Try.prog (mkCtx tyL [(110, (iest_spn fuel)), (143, ifixed_sp), (144, selectivity_sp)]) := CtxOK.cons ih (CtxOK.cons ifixed_ok (CtxOK.cons selectivity_ok (CtxOK.nil tyOK)))
 have hM : Try.prog.follows .mixedOrders = true := Try.checked.mixed
 refine FnOK.of_body Try.func110 (by kernel_rfl) rfl (C := (mkCtx tyL [(110, (iest_spn fuel)), (143, ifixed_sp), (144, selectivity_sp)])) hC.ty (by kernel_rfl) ?_
 intro (p : Pln) (stats : List Sta) (cost : Cel) hwf hpre E
 have hpre : (PE stats p cost) ∧ SizeOf.sizeOf p < fuel + 1 := hpre
 have hw_p : Wf ⟨(.named 2), (p : Pln)⟩ := hwf _ (List.Mem.head _)
 obtain ⟨hr_p_Kind, hr_p_Table, hl_p_Exprs, hl_p_Cols, hl_p_Kids⟩ := Pln.wfl hw_p
 have hw_stats : Wf ⟨(.slice (.named 3)), (stats : List Sta)⟩ := hwf _ (List.Mem.tail _ (List.Mem.head _))
 have hl_stats : ((List.length stats : Nat) : Int) ≤ 9223372036854775807 := hw_stats.len
 have hw_cost : Wf ⟨(.named 4), (cost : Cel)⟩ := hwf _ (List.Mem.tail _ (List.Mem.tail _ (List.Mem.head _)))
 have hr_cost_v := Cel.wfl hw_cost
 obtain ⟨lv, hPS, hc0, hcap⟩ := hpre.1
 obtain ⟨hO, hT, -⟩ := hPS.pvw.pvn.of
 have hpc := parts2 (Pln.Kind p)
 have hOk := hO.kids
 have hOc := hO.kind
 have h2l := hPS.two
 have hOe := hO.exprs
 have hTl := statsWidths_len stats
 have e0 : iest_r (fuel + 1) p stats cost = iest_r (fuel + 1) p stats cost := rfl
 refine AW.seq (AW.r1 hC [0, 1, 2] [8] ⟨[(0, sR4 p), (1, sD11 stats), (2, .ref 8 0 0)], [(8, .box 0 [sI (Cel.v cost)])]⟩ ?_)
 refine AW.seq (AW.r1 hC [0, 1, 2, 7] [8, 28] ⟨[(0, sR4 p), (1, sD11 stats), (2, .ref 8 0 0), (7, .eref 28 1 0 [])], [(8, .box 0 [sI (Cel.v cost)]), (28, .arr 1 (.int .i64) ((List.replicate 2 0) : List Int))]⟩ ?_)
 refine AW.seq (AW.seq (AW.r1 hC [0, 1, 2, 7, 15, 16] [8, 28] ⟨[(0, sR4 p), (1, sD11 stats), (2, .ref 8 0 0), (7, .eref 28 1 0 []), (15, sI ((List.length (Pln.Kids p) : Nat) : Int)), (16, sI 0)], [(8, .box 0 [sI (Cel.v cost)]), (28, .arr 1 (.int .i64) ((List.replicate 2 0) : List Int))]⟩ ?_))
 refine AW.cutQ (α := Int × (List Int)) (fun x => ⟨[(0, sR4 p), (1, sD11 stats), (2, .ref 8 0 0), (7, .eref 28 1 0 [])], [(8, .box 0 [sI x.1]), (28, .arr 1 (.int .i64) (x.2 : List Int))]⟩) (fun x => (EIl stats p (Cel.v cost) lv (List.length (Pln.Kids p)) x.1 x.2) ∧ (iest_l0 (iest_r fuel) p stats ((List.length (Pln.Kids p)) - 0 + 1) 0 (Cel.v cost) (List.replicate 2 0)) = x) ?_ ?_
 ·
  skip
  refine AW.block (AW.loop (α := Nat × Int × (List Int)) (fun x => ⟨[(0, sR4 p), (1, sD11 stats), (2, .ref 8 0 0), (7, .eref 28 1 0 []), (15, sI ((List.length (Pln.Kids p) : Nat) : Int)), (16, sI ((x.1 : Nat) : Int))], [(8, .box 0 [sI x.2.1]), (28, .arr 1 (.int .i64) (x.2.2 : List Int))]⟩) (fun x => (EIl stats p (Cel.v cost) lv x.1 x.2.1 x.2.2) ∧ ∃ k, (List.length (Pln.Kids p)) - x.1 < k ∧ (iest_l0 (iest_r fuel) p stats ((List.length (Pln.Kids p)) - 0 + 1) 0 (Cel.v cost) (List.replicate 2 0)) = iest_l0 (iest_r fuel) p stats k x.1 x.2.1 x.2.2) (fun x => (List.length (Pln.Kids p)) - x.1) (0, (Cel.v cost), (List.replicate 2 0)) (by kernel_rfl) ⟨?_, _, Nat.lt_succ_self _, rfl⟩ ?_)
  ·
   show EIl stats p (Cel.v cost) lv 0 (Cel.v cost) (List.replicate 2 0)
   exact EIl.init hPS hc0
  ·
   intro x hR
   obtain ⟨v16, cost1, ar28⟩ := x
   obtain ⟨hI0, k27, hk25, e26⟩ := hR
   replace hI0 : EIl stats p (Cel.v cost) lv v16 cost1 ar28 := hI0
   replace hk25 : (List.length (Pln.Kids p)) - v16 < k27 := hk25
   obtain ⟨k27q, rfl⟩ : ∃ k, k27 = k + 1 := ⟨k27 - 1, by omega⟩
   refine AW.seq (AW.r1 hC [0, 1, 2, 7, 15, 16, 17] [8, 28] ⟨[(0, sR4 p), (1, sD11 stats), (2, .ref 8 0 0), (7, .eref 28 1 0 []), (15, sI ((List.length (Pln.Kids p) : Nat) : Int)), (16, sI ((v16 : Nat) : Int)), (17, sB (decide (((v16 : Nat) : Int) < ((List.length (Pln.Kids p) : Nat) : Int))))], [(8, .box 0 [sI cost1]), (28, .arr 1 (.int .i64) (ar28 : List Int))]⟩ ?_)
   refine AW.seq (AW.cd (decide (((v16 : Nat) : Int) < ((List.length (Pln.Kids p) : Nat) : Int))) ?_ ?_)
   ·
    intro h32
    have h32q := (of_decide_eq_true h32)
    have e33 := e26.trans (Go.Am.bif_t h32)
    refine AW.kp [0, 1, 2, 7, 15, 16] [8, 28] ⟨[(0, sR4 p), (1, sD11 stats), (2, .ref 8 0 0), (7, .eref 28 1 0 []), (15, sI ((List.length (Pln.Kids p) : Nat) : Int)), (16, sI ((v16 : Nat) : Int))], [(8, .box 0 [sI cost1]), (28, .arr 1 (.int .i64) (ar28 : List Int))]⟩ ?_
    refine AW.skip (AW.seq (AW.block (AW.seq (AW.r1 hC [0, 1, 2, 7, 8, 15, 16] [8, 28] ⟨[(0, sR4 p), (1, sD11 stats), (2, .ref 8 0 0), (7, .eref 28 1 0 []), (8, sI ((v16 : Nat) : Int)), (15, sI ((List.length (Pln.Kids p) : Nat) : Int)), (16, sI ((v16 : Nat) : Int))], [(8, .box 0 [sI cost1]), (28, .arr 1 (.int .i64) (ar28 : List Int))]⟩ ?_))))
    refine AW.r0 hC [0, 1, 2, 7, 15, 16] [8, 28] ⟨[(0, sR4 p), (1, sD11 stats), (2, .ref 8 0 0), (7, .eref 28 1 0 []), (15, sI ((List.length (Pln.Kids p) : Nat) : Int)), (16, sI ((v16 : Nat) : Int))], [(8, .box 0 [sI (Cel.v (((iest_r fuel) (List.getD (Pln.Kids p) v16 Pln.zero) stats (Cel.mk cost1)).2))]), (28, .arr 1 (.int .i64) ((List.set ar28 v16 (((iest_r fuel) (List.getD (Pln.Kids p) v16 Pln.zero) stats (Cel.mk cost1)).1)) : List Int))]⟩ [IX ((v16 : Nat) : Int) ((List.length (Pln.Kids p) : Nat) : Int), ((PE stats (List.getD (Pln.Kids p) v16 Pln.zero) (Cel.mk cost1)) ∧ SizeOf.sizeOf (List.getD (Pln.Kids p) v16 Pln.zero) < fuel), IX ((v16 : Nat) : Int) ((2 : Nat) : Int), (((v16 : Nat) : Int) < ((List.length ar28 : Nat) : Int))] ?_ ?_
    ·
     refine ⟨?_, ?_, ?_, ?_, trivial⟩
     ·
      refine IX.of ?_
      omega
     ·
      exact ⟨hI0.pre (by omega) hcap, Nat.lt_of_lt_of_le (pkid_lt (by omega)) (Nat.le_of_lt_succ hpre.2)⟩
     ·
      refine IX.of ?_
      omega
     ·
      have hA := hI0.ar.1; omega
    refine AW.r0 hC [0, 1, 2, 7, 15, 16] [8, 28] ⟨[(0, sR4 p), (1, sD11 stats), (2, .ref 8 0 0), (7, .eref 28 1 0 []), (15, sI ((List.length (Pln.Kids p) : Nat) : Int)), (16, sI ((v16 + 1 : Nat) : Int))], [(8, .box 0 [sI (Cel.v (((iest_r fuel) (List.getD (Pln.Kids p) v16 Pln.zero) stats (Cel.mk cost1)).2))]), (28, .arr 1 (.int .i64) ((List.set ar28 v16 (((iest_r fuel) (List.getD (Pln.Kids p) v16 Pln.zero) stats (Cel.mk cost1)).1)) : List Int))]⟩ [R64 ((v16 + 1 : Nat) : Int)] ?_ ?_
    ·
     refine ⟨?_, trivial⟩
     ·
      refine R64.of ?_
      omega
    refine AW.back (x := (v16, cost1, ar28)) (v16 + 1, (Cel.v (((iest_r fuel) (List.getD (Pln.Kids p) v16 Pln.zero) stats (Cel.mk cost1)).2)), (List.set ar28 v16 (((iest_r fuel) (List.getD (Pln.Kids p) v16 Pln.zero) stats (Cel.mk cost1)).1))) (by kernel_rfl) ⟨?_, k27q, ?_, e33⟩ ?_
    ·
     show EIl stats p (Cel.v cost) lv (v16 + 1) (Cel.v (((iest_r fuel) (List.getD (Pln.Kids p) v16 Pln.zero) stats (Cel.mk cost1)).2)) (List.set ar28 v16 (((iest_r fuel) (List.getD (Pln.Kids p) v16 Pln.zero) stats (Cel.mk cost1)).1))
     exact hI0.step (by omega) hpre.2 (iest_b stats fuel)
    ·
     show (List.length (Pln.Kids p)) - (v16 + 1) < k27q
     omega
    ·
     show (List.length (Pln.Kids p)) - (v16 + 1) < (List.length (Pln.Kids p)) - v16
     omega
   ·
    intro h34
    have h34q := (of_decide_eq_false h34)
    have e35 := e26.trans (Go.Am.bif_f h34)
    refine AW.kp [0, 1, 2, 7] [8, 28] ⟨[(0, sR4 p), (1, sD11 stats), (2, .ref 8 0 0), (7, .eref 28 1 0 [])], [(8, .box 0 [sI cost1]), (28, .arr 1 (.int .i64) (ar28 : List Int))]⟩ ?_
    refine AW.exit ?_
    refine AW.meet (cost1, ar28) (by kernel_rfl) ⟨?_, e35⟩
    show EIl stats p (Cel.v cost) lv (List.length (Pln.Kids p)) cost1 ar28
    refine ⟨hI0.ps, hI0.ar, hI0.lo, ?_⟩
    have hh := hI0.hi
    rw [show (List.length (Pln.Kids p)) - v16 = 0 by omega] at hh
    rw [Nat.sub_self]
    exact hh
 ·
  intro x hR
  obtain ⟨cost1, ar28⟩ := x
  obtain ⟨hJ0, e36⟩ := hR
  replace hJ0 : EIl stats p (Cel.v cost) lv (List.length (Pln.Kids p)) cost1 ar28 := hJ0
  have e37 := e0.trans (Go.Am.then_eq e36)
  refine AW.seq (AW.r0 hC [0, 1, 2, 7, 9] [8, 28] ⟨[(0, sR4 p), (1, sD11 stats), (2, .ref 8 0 0), (7, .eref 28 1 0 []), (9, sI (List.getD ar28 0 0))], [(8, .box 0 [sI cost1]), (28, .arr 1 (.int .i64) (ar28 : List Int))]⟩ [IX (0 : Int) ((2 : Nat) : Int), ((0 : Int) < ((List.length ar28 : Nat) : Int))] ?_ ?_)
  ·
   refine ⟨?_, ?_, trivial⟩
   ·
    refine IX.of ?_
    omega
   ·
    have hA := hJ0.ar.1; omega
  refine AW.seq (AW.seq (AW.r1 hC [0, 1, 2, 7, 9, 36] [8, 28] ⟨[(0, sR4 p), (1, sD11 stats), (2, .ref 8 0 0), (7, .eref 28 1 0 []), (9, sI (List.getD ar28 0 0)), (36, sI (Pln.Kind p))], [(8, .box 0 [sI cost1]), (28, .arr 1 (.int .i64) (ar28 : List Int))]⟩ ?_))
  refine AW.block (AW.seq (AW.r1 hC [0, 1, 2, 7, 9, 36, 37] [8, 28] ⟨[(0, sR4 p), (1, sD11 stats), (2, .ref 8 0 0), (7, .eref 28 1 0 []), (9, sI (List.getD ar28 0 0)), (36, sI (Pln.Kind p)), (37, sB ((Pln.Kind p) == 1))], [(8, .box 0 [sI cost1]), (28, .arr 1 (.int .i64) (ar28 : List Int))]⟩ ?_))
  refine AW.cutQ (α := Int) (fun x => ⟨[(2, .ref 8 0 0), (9, sI x)], [(8, .box 0 [sI cost1])]⟩) (fun x => (True) ∧ (iest_j8 p stats ar28) = x) ?_ ?_
  ·
   skip
   have e10261 : (iest_j8 p stats ar28) = (iest_j8 p stats ar28) := rfl
   refine AW.cd ((Pln.Kind p) == 1) ?_ ?_
   ·
    intro h10262
    have h10262q := (Go.Am.beq_pos h10262)
    have e10263 := e10261.trans (Go.Am.bif_t h10262)
    refine AW.r0 hC [2, 9] [8] ⟨[(2, .ref 8 0 0), (9, sI (Sta.Rows (List.getD stats (Int.toNat (Pln.Table p)) Sta.zero)))], [(8, .box 0 [sI cost1])]⟩ [IX (Pln.Table p) ((List.length stats : Nat) : Int)] ?_ ?_
    ·
     refine ⟨?_, trivial⟩
     ·
      refine IX.of ?_
      omega
    refine AW.meet (Sta.Rows (List.getD stats (Int.toNat (Pln.Table p)) Sta.zero)) (by kernel_rfl) ⟨?_, e10263⟩
    show True
    exact trivial
   ·
    intro h10264
    have h10264q := (Go.Am.beq_neg h10264)
    have e10265 := e10261.trans (Go.Am.bif_f h10264)
    refine AW.seq (AW.r1 hC [0, 1, 2, 7, 9, 36, 47] [8, 28] ⟨[(0, sR4 p), (1, sD11 stats), (2, .ref 8 0 0), (7, .eref 28 1 0 []), (9, sI (List.getD ar28 0 0)), (36, sI (Pln.Kind p)), (47, sB ((Pln.Kind p) == 2))], [(8, .box 0 [sI cost1]), (28, .arr 1 (.int .i64) (ar28 : List Int))]⟩ ?_)
    refine AW.cutQ (α := Int) (fun x => ⟨[(2, .ref 8 0 0), (9, sI x)], [(8, .box 0 [sI cost1])]⟩) (fun x => (True) ∧ (iest_j7 p stats ar28) = x) ?_ ?_
    ·
     skip
     have e11624 : (iest_j7 p stats ar28) = (iest_j7 p stats ar28) := rfl
     refine AW.cd ((Pln.Kind p) == 2) ?_ ?_
     ·
      intro h11625
      have h11625q := (Go.Am.beq_pos h11625)
      have e11626 := e11624.trans (Go.Am.bif_t h11625)
      refine AW.seq (AW.r0 hC [0, 1, 2, 9, 10] [8] ⟨[(0, sR4 p), (1, sD11 stats), (2, .ref 8 0 0), (9, sI (List.getD ar28 0 0)), (10, sI (ifixed (List.getD (Pln.Exprs p) 0 Xpr.zero)))], [(8, .box 0 [sI cost1])]⟩ [IX (0 : Int) ((List.length (Pln.Exprs p) : Nat) : Int), (∃ w, VXn w (List.getD (Pln.Exprs p) 0 Xpr.zero))] ?_ ?_)
      ·
       refine ⟨?_, ?_, trivial⟩
       ·
        refine IX.of ?_
        omega
       ·
        exact (hPS.vx (by omega)).2
      refine AW.seq (AW.seq (AW.r0 hC [0, 1, 2, 9, 10, 62] [8] ⟨[(0, sR4 p), (1, sD11 stats), (2, .ref 8 0 0), (9, sI (List.getD ar28 0 0)), (10, sI (ifixed (List.getD (Pln.Exprs p) 0 Xpr.zero))), (62, sB ((Pln.Kind (List.getD (Pln.Kids p) 0 Pln.zero)) == 1))], [(8, .box 0 [sI cost1])]⟩ [IX (0 : Int) ((List.length (Pln.Kids p) : Nat) : Int)] ?_ ?_))
      ·
       refine ⟨?_, trivial⟩
       ·
        refine IX.of ?_
        omega
      refine AW.cutQ (α := Int) (fun x => ⟨[(2, .ref 8 0 0), (9, sI (List.getD ar28 0 0)), (10, sI x)], [(8, .box 0 [sI cost1])]⟩) (fun x => (True) ∧ (iest_j0 p stats) = x) ?_ ?_
      ·
       skip
       have e11635 : (iest_j0 p stats) = (iest_j0 p stats) := rfl
       refine AW.cd ((Pln.Kind (List.getD (Pln.Kids p) 0 Pln.zero)) == 1) ?_ ?_
       ·
        intro h11636
        have h11636q := (Go.Am.beq_pos h11636)
        have e11637 := e11635.trans (Go.Am.bif_t h11636)
        refine AW.d0 hC hM [2, 9, 10] [8] ⟨[(2, .ref 8 0 0), (9, sI (List.getD ar28 0 0)), (10, sI (selectivity (List.getD (Pln.Exprs p) 0 Xpr.zero) (List.getD stats (Int.toNat (Pln.Table (List.getD (Pln.Kids p) 0 Pln.zero))) Sta.zero)))], [(8, .box 0 [sI cost1])]⟩ [IX (0 : Int) ((List.length (Pln.Exprs p) : Nat) : Int), IX (0 : Int) ((List.length (Pln.Kids p) : Nat) : Int), IX (Pln.Table (List.getD (Pln.Kids p) 0 Pln.zero)) ((List.length stats : Nat) : Int), (VSt (List.getD stats (Int.toNat (Pln.Table (List.getD (Pln.Kids p) 0 Pln.zero))) Sta.zero) ∧ VXn ((List.length (Sta.Distinct (List.getD stats (Int.toNat (Pln.Table (List.getD (Pln.Kids p) 0 Pln.zero))) Sta.zero)) : Nat) : Int) (List.getD (Pln.Exprs p) 0 Xpr.zero))] ?_ ?_
        ·
         refine ⟨?_, ?_, ?_, ?_, trivial⟩
         ·
          refine IX.of ?_
          omega
         ·
          refine IX.of ?_
          omega
         ·
          refine IX.of ?_
          have ht := (hPS.kid (i := 0) (by omega)).2.table (by omega); omega
         ·
          exact hPS.sel (by omega) (by omega)
        refine AW.meet (selectivity (List.getD (Pln.Exprs p) 0 Xpr.zero) (List.getD stats (Int.toNat (Pln.Table (List.getD (Pln.Kids p) 0 Pln.zero))) Sta.zero)) (by kernel_rfl) ⟨?_, e11637⟩
        show True
        exact trivial
       ·
        intro h11638
        have h11638q := (Go.Am.beq_neg h11638)
        have e11639 := e11635.trans (Go.Am.bif_f h11638)
        refine AW.kp [2, 9, 10] [8] ⟨[(2, .ref 8 0 0), (9, sI (List.getD ar28 0 0)), (10, sI (ifixed (List.getD (Pln.Exprs p) 0 Xpr.zero)))], [(8, .box 0 [sI cost1])]⟩ ?_
        refine AW.skip (AW.meet (ifixed (List.getD (Pln.Exprs p) 0 Xpr.zero)) (by kernel_rfl) ⟨?_, e11639⟩)
        show True
        exact trivial
      ·
       intro permille hR
       obtain ⟨hM0, e11640⟩ := hR
       replace hM0 : True := hM0
       have e11641 := e11626.trans (Go.Am.then_eq e11640)
       refine AW.r0 hC [2, 9] [8] ⟨[(2, .ref 8 0 0), (9, sI (((List.getD ar28 0 0) * permille) / 1000))], [(8, .box 0 [sI cost1])]⟩ [R64 ((List.getD ar28 0 0) * permille), (0 ≤ ((List.getD ar28 0 0) * permille) ∧ 0 < (1000 : Int))] ?_ ?_
       ·
        refine ⟨?_, ?_, trivial⟩
        ·
         refine R64.of ?_
         have hj := j0_b hPS (by omega); have he : iest_j0 p stats = permille := (by assumption); have a0 := hJ0.ar.2 0; rw [he] at hj; have m := le_mul3 a0.1 hj; omega
        ·
         have hj := j0_b hPS (by omega); have he : iest_j0 p stats = permille := (by assumption); have a0 := hJ0.ar.2 0; rw [he] at hj; have m := le_mul3 a0.1 hj; omega
       refine AW.meet (((List.getD ar28 0 0) * permille) / 1000) (by kernel_rfl) ⟨?_, e11641⟩
       show True
       exact trivial
     ·
      intro h11642
      have h11642q := (Go.Am.beq_neg h11642)
      have e11643 := e11624.trans (Go.Am.bif_f h11642)
      refine AW.seq (AW.seq (AW.r1 hC [0, 2, 7, 9, 36, 82] [8, 28] ⟨[(0, sR4 p), (2, .ref 8 0 0), (7, .eref 28 1 0 []), (9, sI (List.getD ar28 0 0)), (36, sI (Pln.Kind p)), (82, sB ((Pln.Kind p) == 4))], [(8, .box 0 [sI cost1]), (28, .arr 1 (.int .i64) (ar28 : List Int))]⟩ ?_))
      refine AW.cutQ (α := Bool) (fun x => ⟨[(0, sR4 p), (2, .ref 8 0 0), (7, .eref 28 1 0 []), (9, sI (List.getD ar28 0 0)), (36, sI (Pln.Kind p)), (82, sB x)], [(8, .box 0 [sI cost1]), (28, .arr 1 (.int .i64) (ar28 : List Int))]⟩) (fun x => (x = true → (Pln.Kind p = 4 ∨ Pln.Kind p = 5)) ∧ (iest_j1 p) = x) ?_ ?_
      ·
       skip
       have e11652 : (iest_j1 p) = (iest_j1 p) := rfl
       refine AW.cd ((Pln.Kind p) == 4) ?_ ?_
       ·
        intro h11653
        have h11653q := (Go.Am.beq_pos h11653)
        have e11654 := e11652.trans (Go.Am.bif_t h11653)
        refine AW.skip (AW.meet ((Pln.Kind p) == 4) (by kernel_rfl) ⟨?_, e11654⟩)
        show ((Pln.Kind p) == 4) = true → (Pln.Kind p = 4 ∨ Pln.Kind p = 5)
        omega
       ·
        intro h11655
        have h11655q := (Go.Am.beq_neg h11655)
        have e11656 := e11652.trans (Go.Am.bif_f h11655)
        refine AW.r1 hC [0, 2, 7, 9, 36, 82] [8, 28] ⟨[(0, sR4 p), (2, .ref 8 0 0), (7, .eref 28 1 0 []), (9, sI (List.getD ar28 0 0)), (36, sI (Pln.Kind p)), (82, sB ((Pln.Kind p) == 5))], [(8, .box 0 [sI cost1]), (28, .arr 1 (.int .i64) (ar28 : List Int))]⟩ ?_
        refine AW.meet ((Pln.Kind p) == 5) (by kernel_rfl) ⟨?_, e11656⟩
        show ((Pln.Kind p) == 5) = true → (Pln.Kind p = 4 ∨ Pln.Kind p = 5)
        intro hv; first | omega | (have := beq_pos hv; omega)
      ·
       intro v82 hR
       obtain ⟨hM1, e11657⟩ := hR
       replace hM1 : v82 = true → (Pln.Kind p = 4 ∨ Pln.Kind p = 5) := hM1
       have e11658 := e11643.trans (Go.Am.then_eq e11657)
       refine AW.cutQ (α := Int) (fun x => ⟨[(2, .ref 8 0 0), (9, sI x)], [(8, .box 0 [sI cost1])]⟩) (fun x => (True) ∧ (iest_j6 p ar28 v82) = x) ?_ ?_
       ·
        skip
        have e12087 : (iest_j6 p ar28 v82) = (iest_j6 p ar28 v82) := rfl
        refine AW.cd v82 ?_ ?_
        ·
         intro h12088
         have h12088q : v82 = true := h12088
         have e12089 := e12087.trans (Go.Am.bif_t h12088)
         refine AW.seq (AW.d0 hC hM [0, 2, 7, 9] [8, 28] ⟨[(0, sR4 p), (2, .ref 8 0 0), (7, .eref 28 1 0 []), (9, sI (((if 1000000000 < ((List.getD ar28 0 0) * (List.getD ar28 1 0)) then 1000000000 else ((List.getD ar28 0 0) * (List.getD ar28 1 0))) * (ifixed (List.getD (Pln.Exprs p) 0 Xpr.zero))) / 1000))], [(8, .box 0 [sI cost1]), (28, .arr 1 (.int .i64) (ar28 : List Int))]⟩ [IX (0 : Int) ((2 : Nat) : Int), ((0 : Int) < ((List.length ar28 : Nat) : Int)), IX (1 : Int) ((2 : Nat) : Int), ((1 : Int) < ((List.length ar28 : Nat) : Int)), R64 ((List.getD ar28 0 0) * (List.getD ar28 1 0)), IX (0 : Int) ((List.length (Pln.Exprs p) : Nat) : Int), (∃ w, VXn w (List.getD (Pln.Exprs p) 0 Xpr.zero)), R64 ((if 1000000000 < ((List.getD ar28 0 0) * (List.getD ar28 1 0)) then 1000000000 else ((List.getD ar28 0 0) * (List.getD ar28 1 0))) * (ifixed (List.getD (Pln.Exprs p) 0 Xpr.zero))), (0 ≤ ((if 1000000000 < ((List.getD ar28 0 0) * (List.getD ar28 1 0)) then 1000000000 else ((List.getD ar28 0 0) * (List.getD ar28 1 0))) * (ifixed (List.getD (Pln.Exprs p) 0 Xpr.zero))) ∧ 0 < (1000 : Int))] ?_ ?_)
         ·
          refine ⟨?_, ?_, ?_, ?_, ?_, ?_, ?_, ?_, ?_, trivial⟩
          ·
           refine IX.of ?_
           omega
          ·
           have hA := hJ0.ar.1; omega
          ·
           refine IX.of ?_
           omega
          ·
           have hA := hJ0.ar.1; omega
          ·
           refine R64.of ?_
           have hA := hJ0.ar.1; have a0 := hJ0.ar.2 0; have a1 := hJ0.ar.2 1; have m := le_mul a0 a1; have fx := ifixed_bb (List.getD (Pln.Exprs p) 0 Xpr.zero); have mb := minB m.1; have mx := le_mul3 mb.1 fx; omega
          ·
           refine IX.of ?_
           have hk := hM1 (by assumption); have hA := hJ0.ar.1; omega
          ·
           have hk := hM1 (by assumption); exact (hPS.vx (by omega)).2
          ·
           refine R64.of ?_
           have hA := hJ0.ar.1; have a0 := hJ0.ar.2 0; have a1 := hJ0.ar.2 1; have m := le_mul a0 a1; have fx := ifixed_bb (List.getD (Pln.Exprs p) 0 Xpr.zero); have mb := minB m.1; have mx := le_mul3 mb.1 fx; omega
          ·
           have hA := hJ0.ar.1; have a0 := hJ0.ar.2 0; have a1 := hJ0.ar.2 1; have m := le_mul a0 a1; have fx := ifixed_bb (List.getD (Pln.Exprs p) 0 Xpr.zero); have mb := minB m.1; have mx := le_mul3 mb.1 fx; omega
         refine AW.seq (AW.r1 hC [2, 7, 9, 103] [8, 28] ⟨[(2, .ref 8 0 0), (7, .eref 28 1 0 []), (9, sI (((if 1000000000 < ((List.getD ar28 0 0) * (List.getD ar28 1 0)) then 1000000000 else ((List.getD ar28 0 0) * (List.getD ar28 1 0))) * (ifixed (List.getD (Pln.Exprs p) 0 Xpr.zero))) / 1000)), (103, sB ((Pln.Kind p) == 5))], [(8, .box 0 [sI cost1]), (28, .arr 1 (.int .i64) (ar28 : List Int))]⟩ ?_)
         refine AW.cutQ (α := Int) (fun x => ⟨[(2, .ref 8 0 0), (9, sI x)], [(8, .box 0 [sI cost1])]⟩) (fun x => (True) ∧ (iest_j2 p ar28) = x) ?_ ?_
         ·
          skip
          have e12098 : (iest_j2 p ar28) = (iest_j2 p ar28) := rfl
          refine AW.cd ((Pln.Kind p) == 5) ?_ ?_
          ·
           intro h12099
           have h12099q := (Go.Am.beq_pos h12099)
           have e12100 := e12098.trans (Go.Am.bif_t h12099)
           refine AW.r0 hC [2, 9] [8] ⟨[(2, .ref 8 0 0), (9, sI (if (List.getD ar28 0 0) > (((if 1000000000 < ((List.getD ar28 0 0) * (List.getD ar28 1 0)) then 1000000000 else ((List.getD ar28 0 0) * (List.getD ar28 1 0))) * (ifixed (List.getD (Pln.Exprs p) 0 Xpr.zero))) / 1000) then (List.getD ar28 0 0) else (((if 1000000000 < ((List.getD ar28 0 0) * (List.getD ar28 1 0)) then 1000000000 else ((List.getD ar28 0 0) * (List.getD ar28 1 0))) * (ifixed (List.getD (Pln.Exprs p) 0 Xpr.zero))) / 1000)))], [(8, .box 0 [sI cost1])]⟩ [IX (0 : Int) ((2 : Nat) : Int), ((0 : Int) < ((List.length ar28 : Nat) : Int))] ?_ ?_
           ·
            refine ⟨?_, ?_, trivial⟩
            ·
             refine IX.of ?_
             omega
            ·
             have hA := hJ0.ar.1; omega
           refine AW.meet (if (List.getD ar28 0 0) > (((if 1000000000 < ((List.getD ar28 0 0) * (List.getD ar28 1 0)) then 1000000000 else ((List.getD ar28 0 0) * (List.getD ar28 1 0))) * (ifixed (List.getD (Pln.Exprs p) 0 Xpr.zero))) / 1000) then (List.getD ar28 0 0) else (((if 1000000000 < ((List.getD ar28 0 0) * (List.getD ar28 1 0)) then 1000000000 else ((List.getD ar28 0 0) * (List.getD ar28 1 0))) * (ifixed (List.getD (Pln.Exprs p) 0 Xpr.zero))) / 1000)) (by kernel_rfl) ⟨?_, e12100⟩
           show True
           exact trivial
          ·
           intro h12101
           have h12101q := (Go.Am.beq_neg h12101)
           have e12102 := e12098.trans (Go.Am.bif_f h12101)
           refine AW.kp [2, 9] [8] ⟨[(2, .ref 8 0 0), (9, sI (((if 1000000000 < ((List.getD ar28 0 0) * (List.getD ar28 1 0)) then 1000000000 else ((List.getD ar28 0 0) * (List.getD ar28 1 0))) * (ifixed (List.getD (Pln.Exprs p) 0 Xpr.zero))) / 1000))], [(8, .box 0 [sI cost1])]⟩ ?_
           refine AW.skip (AW.meet (((if 1000000000 < ((List.getD ar28 0 0) * (List.getD ar28 1 0)) then 1000000000 else ((List.getD ar28 0 0) * (List.getD ar28 1 0))) * (ifixed (List.getD (Pln.Exprs p) 0 Xpr.zero))) / 1000) (by kernel_rfl) ⟨?_, e12102⟩)
           show True
           exact trivial
         ·
          intro rows hR
          obtain ⟨hM2, e12103⟩ := hR
          replace hM2 : True := hM2
          have e12104 := e12089.trans (Go.Am.then_eq e12103)
          refine AW.meet rows (by kernel_rfl) ⟨?_, e12104⟩
          show True
          exact trivial
        ·
         intro h12105
         have h12105q : v82 = false := h12105
         have e12106 := e12087.trans (Go.Am.bif_f h12105)
         refine AW.seq (AW.r1 hC [0, 2, 7, 9, 36, 108] [8, 28] ⟨[(0, sR4 p), (2, .ref 8 0 0), (7, .eref 28 1 0 []), (9, sI (List.getD ar28 0 0)), (36, sI (Pln.Kind p)), (108, sB ((Pln.Kind p) == 6))], [(8, .box 0 [sI cost1]), (28, .arr 1 (.int .i64) (ar28 : List Int))]⟩ ?_)
         refine AW.cutQ (α := Int) (fun x => ⟨[(2, .ref 8 0 0), (9, sI x)], [(8, .box 0 [sI cost1])]⟩) (fun x => (True) ∧ (iest_j5 p ar28) = x) ?_ ?_
         ·
          skip
          have e12235 : (iest_j5 p ar28) = (iest_j5 p ar28) := rfl
          refine AW.cd ((Pln.Kind p) == 6) ?_ ?_
          ·
           intro h12236
           have h12236q := (Go.Am.beq_pos h12236)
           have e12237 := e12235.trans (Go.Am.bif_t h12236)
           refine AW.r0 hC [2, 9] [8] ⟨[(2, .ref 8 0 0), (9, sI (if 1000000000 < ((List.getD ar28 0 0) + (List.getD ar28 1 0)) then 1000000000 else ((List.getD ar28 0 0) + (List.getD ar28 1 0))))], [(8, .box 0 [sI cost1])]⟩ [IX (0 : Int) ((2 : Nat) : Int), ((0 : Int) < ((List.length ar28 : Nat) : Int)), IX (1 : Int) ((2 : Nat) : Int), ((1 : Int) < ((List.length ar28 : Nat) : Int)), R64 ((List.getD ar28 0 0) + (List.getD ar28 1 0))] ?_ ?_
           ·
            refine ⟨?_, ?_, ?_, ?_, ?_, trivial⟩
            ·
             refine IX.of ?_
             omega
            ·
             have hA := hJ0.ar.1; omega
            ·
             refine IX.of ?_
             omega
            ·
             have hA := hJ0.ar.1; omega
            ·
             refine R64.of ?_
             have hA := hJ0.ar.1; have a0 := hJ0.ar.2 0; have a1 := hJ0.ar.2 1; have m := le_mul a0 a1; have fx := ifixed_bb (List.getD (Pln.Exprs p) 0 Xpr.zero); have mb := minB m.1; have mx := le_mul3 mb.1 fx; omega
           refine AW.meet (if 1000000000 < ((List.getD ar28 0 0) + (List.getD ar28 1 0)) then 1000000000 else ((List.getD ar28 0 0) + (List.getD ar28 1 0))) (by kernel_rfl) ⟨?_, e12237⟩
           show True
           exact trivial
          ·
           intro h12238
           have h12238q := (Go.Am.beq_neg h12238)
           have e12239 := e12235.trans (Go.Am.bif_f h12238)
           refine AW.seq (AW.r1 hC [0, 2, 9, 116] [8] ⟨[(0, sR4 p), (2, .ref 8 0 0), (9, sI (List.getD ar28 0 0)), (116, sB ((Pln.Kind p) == 8))], [(8, .box 0 [sI cost1])]⟩ ?_)
           refine AW.cutQ (α := Int) (fun x => ⟨[(2, .ref 8 0 0), (9, sI x)], [(8, .box 0 [sI cost1])]⟩) (fun x => (True) ∧ (iest_j4 p ar28) = x) ?_ ?_
           ·
            skip
            have e12278 : (iest_j4 p ar28) = (iest_j4 p ar28) := rfl
            refine AW.cd ((Pln.Kind p) == 8) ?_ ?_
            ·
             intro h12279
             have h12279q := (Go.Am.beq_pos h12279)
             have e12280 := e12278.trans (Go.Am.bif_t h12279)
             refine AW.seq (AW.r1 hC [2, 9, 123] [8] ⟨[(2, .ref 8 0 0), (9, sI (List.getD ar28 0 0)), (123, sB (((List.length (Pln.Cols p) : Nat) : Int) == 0))], [(8, .box 0 [sI cost1])]⟩ ?_)
             refine AW.cutQ (α := Int) (fun x => ⟨[(2, .ref 8 0 0), (9, sI x)], [(8, .box 0 [sI cost1])]⟩) (fun x => (True) ∧ (iest_j3 p ar28) = x) ?_ ?_
             ·
              skip
              have e12289 : (iest_j3 p ar28) = (iest_j3 p ar28) := rfl
              refine AW.cd (((List.length (Pln.Cols p) : Nat) : Int) == 0) ?_ ?_
              ·
               intro h12290
               have h12290q := (Go.Am.beq_pos h12290)
               have e12291 := e12289.trans (Go.Am.bif_t h12290)
               refine AW.r1 hC [2, 9] [8] ⟨[(2, .ref 8 0 0), (9, sI (if 1 < (List.getD ar28 0 0) then 1 else (List.getD ar28 0 0)))], [(8, .box 0 [sI cost1])]⟩ ?_
               refine AW.meet (if 1 < (List.getD ar28 0 0) then 1 else (List.getD ar28 0 0)) (by kernel_rfl) ⟨?_, e12291⟩
               show True
               exact trivial
              ·
               intro h12292
               have h12292q := (Go.Am.beq_neg h12292)
               have e12293 := e12289.trans (Go.Am.bif_f h12292)
               refine AW.kp [2, 9] [8] ⟨[(2, .ref 8 0 0), (9, sI (List.getD ar28 0 0))], [(8, .box 0 [sI cost1])]⟩ ?_
               refine AW.skip (AW.meet (List.getD ar28 0 0) (by kernel_rfl) ⟨?_, e12293⟩)
               show True
               exact trivial
             ·
              intro rows hR
              obtain ⟨hM3, e12294⟩ := hR
              replace hM3 : True := hM3
              have e12295 := e12280.trans (Go.Am.then_eq e12294)
              refine AW.meet rows (by kernel_rfl) ⟨?_, e12295⟩
              show True
              exact trivial
            ·
             intro h12296
             have h12296q := (Go.Am.beq_neg h12296)
             have e12297 := e12278.trans (Go.Am.bif_f h12296)
             refine AW.kp [2, 9] [8] ⟨[(2, .ref 8 0 0), (9, sI (List.getD ar28 0 0))], [(8, .box 0 [sI cost1])]⟩ ?_
             refine AW.skip (AW.meet (List.getD ar28 0 0) (by kernel_rfl) ⟨?_, e12297⟩)
             show True
             exact trivial
           ·
            intro rows hR
            obtain ⟨hM4, e12298⟩ := hR
            replace hM4 : True := hM4
            have e12299 := e12239.trans (Go.Am.then_eq e12298)
            refine AW.meet rows (by kernel_rfl) ⟨?_, e12299⟩
            show True
            exact trivial
         ·
          intro rows hR
          obtain ⟨hM5, e12300⟩ := hR
          replace hM5 : True := hM5
          have e12301 := e12106.trans (Go.Am.then_eq e12300)
          refine AW.meet rows (by kernel_rfl) ⟨?_, e12301⟩
          show True
          exact trivial
       ·
        intro rows hR
        obtain ⟨hM6, e12302⟩ := hR
        replace hM6 : True := hM6
        have e12303 := e11658.trans (Go.Am.then_eq e12302)
        refine AW.meet rows (by kernel_rfl) ⟨?_, e12303⟩
        show True
        exact trivial
    ·
     intro rows hR
     obtain ⟨hM7, e12304⟩ := hR
     replace hM7 : True := hM7
     have e12305 := e10265.trans (Go.Am.then_eq e12304)
     refine AW.meet rows (by kernel_rfl) ⟨?_, e12305⟩
     show True
     exact trivial
  ·
   intro rows hR
   obtain ⟨hM8, e12306⟩ := hR
   replace hM8 : True := hM8
   have e12307 := e37.trans (Go.Am.then_eq e12306)
   refine AW.seq (AW.r0 hC [9] [8] ⟨[(9, sI rows)], [(8, .box 0 [sI (cost1 + rows)])]⟩ [R64 (cost1 + rows)] ?_ ?_)
   ·
    refine ⟨?_, trivial⟩
    ·
     refine R64.of ?_
     have hj := j8_b hPS hJ0.ar.2; have he : iest_j8 p stats ar28 = rows := (by assumption); have hh := hJ0.hi; rw [Nat.sub_self] at hh; unfold rem at hh; rw [if_pos rfl] at hh; have hlo := hJ0.lo; omega
   refine AW.seq (AW.r1 hC [6] [8] ⟨[(6, sI rows)], [(8, .box 0 [sI (cost1 + rows)])]⟩ ?_)
   exact AW.ret (AW.retE (β := Int × Cel) (fun v => [⟨(.int .i64), v.1⟩]) (fun v => [⟨(.named 4), v.2⟩]) (v := (rows, (Cel.mk (cost1 + rows)))) e12307 (by kernel_rfl) rfl rfl)

theorem iest_fu : AllTV (iest_sp.ps.map PK.ty) (fun tvs => iest_sp.pre tvs → ∃ k, (iest_spn k).pre tvs ∧ (iest_spn k).fn tvs = iest_sp.fn tvs ∧ (iest_spn k).bx tvs = iest_sp.bx tvs) :=
 (fun (p : Pln) (stats : List Sta) (cost : Cel) h => ⟨SizeOf.sizeOf p + 1, (show (PE stats p cost) ∧ SizeOf.sizeOf p < SizeOf.sizeOf p + 1 from ⟨h, Nat.lt_succ_self _⟩), (show (iest_spn (SizeOf.sizeOf p + 1)).fn [⟨(.named 2), (p : Pln)⟩, ⟨(.slice (.named 3)), (stats : List Sta)⟩, ⟨(.named 4), (cost : Cel)⟩] = ([⟨(.int .i64), ((iest_r (SizeOf.sizeOf p + 1) p stats cost).1)⟩] : List TV) from by kernel_rfl).trans (show ([⟨(.int .i64), ((iest_r (SizeOf.sizeOf p + 1) p stats cost).1)⟩] : List TV) = iest_sp.fn [⟨(.named 2), (p : Pln)⟩, ⟨(.slice (.named 3)), (stats : List Sta)⟩, ⟨(.named 4), (cost : Cel)⟩] from by kernel_rfl), (show (iest_spn (SizeOf.sizeOf p + 1)).bx _ = ([⟨(.named 4), ((iest_r (SizeOf.sizeOf p + 1) p stats cost).2)⟩] : List TV) from by kernel_rfl).trans (by kernel_rfl)⟩)

theorem iest_ok : FnOK Try.prog 110 iest_sp := FnOK.of_fuel iest_okn (fun _ => rfl) (fun _ => rfl) (AllTV.get iest_fu)

end
end Go.Proofs.Ytodcdgolcbdkgaa
