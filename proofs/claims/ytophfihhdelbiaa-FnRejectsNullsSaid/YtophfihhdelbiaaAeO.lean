/-
  A part of the proof of this claim (AeO): what functions of the program compute, and plain facts of that. No conditions.
-/
import Derived.Test.YtophfihhdelbiaaAeM
set_option linter.all false
namespace Go.Proofs.Ytophfihhdelbiaa
open Go Go.Am
noncomputable section

def VRw (row : List Val) : Prop := ∀ j, j < row.length → VV (row.getD j Val.zero)
def VXr (row : List Val) (e : Xpr) : Prop := VRw row ∧ ∃ l, VE ((row.length : Nat) : Int) l e

theorem VXr.kid {row : List Val} {e : Xpr} (h : VXr row e) {i : Nat} (hi : i < e.Kids.length) : VXr row (e.Kids.getD i Xpr.zero) := by
 obtain ⟨h1, l, h2⟩ := h
 exact ⟨h1, h2.kid hi⟩

theorem VXr.node {row : List Val} {e : Xpr} (h : VXr row e) : Node ((row.length : Nat) : Int) e := by
 obtain ⟨h1, l, h2⟩ := h
 exact h2.node

theorem VV.n {v : Val} (h : VV v) : -9999 ≤ v.N ∧ v.N ≤ 9999 := by
 unfold VV at h
 split at h
 ·
  omega
 ·
  exact h

theorem truthOf_b (v : Val) : 0 ≤ truthOf v ∧ truthOf v ≤ 2 := by
 unfold truthOf
 cases v.Null with
 | true => rw [cond_true]; decide
 | false =>
  rw [cond_false]
  cases (v.N == 0) <;> simp only [cond_true, cond_false] <;> decide

theorem truthValue_vv (t : Int) : VV (truthValue t) := by
 unfold truthValue flag inull inumber VV
 cases (t == 1) with
 | true => simp
 | false =>
  rw [cond_false]
  cases (t == 2) <;> simp

theorem flag_vv (b : Bool) : VV (flag b) := by
 unfold flag inumber VV
 cases b <;> simp

theorem numberOrNull_vv (n : Int) : VV (numberOrNull n) := by
 unfold numberOrNull
 cases h : valValid (inumber n) with
 | true => exact valValid_iff.1 h
 | false => exact (by unfold inull VV; simp)

theorem combined_vv (k : Int) (a b : Val) : VV (combined k a b) := by
 unfold combined
 cases (k == 8) with
 | true => exact truthValue_vv _
 | false =>
  rw [cond_false]
  cases (k == 9) with
  | true => exact truthValue_vv _
  | false =>
   rw [cond_false]
   cases (bif Val.Null a then true else Val.Null b) with
   | true => exact (by rw [cond_true]; unfold inull VV; simp)
   | false =>
    rw [cond_false]
    cases (k == 3) <;> cases (k == 4) <;> cases (k == 5) <;> cases (k == 6) <;> simp only [cond_true, cond_false] <;> first | exact numberOrNull_vv _ | exact flag_vv _

def value_r : Nat → Xpr → (List Val) → Val
 | 0, e, row => Val.zero
 | fuel + 1, e, row => (bif ((Xpr.Kind e) == 1) then (List.getD row (Int.toNat (Xpr.Col e)) Val.zero) else (bif ((Xpr.Kind e) == 2) then (Xpr.V e) else (bif ((Xpr.Kind e) == 10) then (truthValue (2 - (truthOf ((value_r fuel) (List.getD (Xpr.Kids e) 0 Xpr.zero) row)))) else (bif ((Xpr.Kind e) == 11) then (flag (Val.Null ((value_r fuel) (List.getD (Xpr.Kids e) 0 Xpr.zero) row))) else (combined (Xpr.Kind e) ((value_r fuel) (List.getD (Xpr.Kids e) 0 Xpr.zero) row) ((value_r fuel) (List.getD (Xpr.Kids e) 1 Xpr.zero) row))))))

def value (e : Xpr) (row : List Val) : Val := value_r (SizeOf.sizeOf e + 1) e row

def value_spn (fuel : Nat) : FnSpec := mkSpec [.rd (.named 1), .val (.slice (.named 0))] [.val (.named 0)] (fun (e : Xpr) (row : List Val) => (VXr row e) ∧ SizeOf.sizeOf e < fuel) (fun (e : Xpr) (row : List Val) => [⟨(.named 0), (value_r fuel e row)⟩])

def value_sp : FnSpec := mkSpec [.rd (.named 1), .val (.slice (.named 0))] [.val (.named 0)] (fun (e : Xpr) (row : List Val) => VXr row e) (fun (e : Xpr) (row : List Val) => [⟨(.named 0), (value e row)⟩])

theorem value_vv : ∀ (f : Nat) (e : Xpr) (row : List Val), VXr row e → VV (value_r f e row) := by
 intro f
 induction f with
 | zero => intro e row h; exact (by show VV Val.zero; unfold VV Val.zero; simp)
 | succ f ih =>
  intro e row h
  have hn := h.node
  unfold value_r
  by_cases h1 : e.Kind = 1
  ·
   rw [show (e.Kind == 1) = true from beq_iff_eq.2 h1, cond_true]
   have hc := hn.col h1
   exact h.1 _ (by omega)
  ·
   rw [show (e.Kind == 1) = false from beq_false_of_ne h1, cond_false]
   by_cases h2 : e.Kind = 2
   ·
    rw [show (e.Kind == 2) = true from beq_iff_eq.2 h2, cond_true]
    exact hn.val h2
   ·
    rw [show (e.Kind == 2) = false from beq_false_of_ne h2, cond_false]
    cases (e.Kind == 10) with
    | true => exact truthValue_vv _
    | false =>
     rw [cond_false]
     cases (e.Kind == 11) with
     | true => exact flag_vv _
     | false => exact combined_vv _ _ _

theorem value_okn (fuel : Nat) : FnOK Try.prog 26 (value_spn fuel) := by
 induction fuel with
 | zero => exact FnOK.never Try.func26 (by kernel_rfl) rfl (fun _ _ h => absurd h.2 (Nat.not_lt_zero _))
 | succ fuel ih => ?_
 have hC : CtxOK Try.prog (mkCtx tyL [(26, (value_spn fuel)), (40, truthOf_sp), (41, truthValue_sp), (42, flag_sp), (43, combined_sp)]) := CtxOK.cons ih (CtxOK.cons truthOf_ok (CtxOK.cons truthValue_ok (CtxOK.cons flag_ok (CtxOK.cons combined_ok (CtxOK.nil tyOK)))))
 have hM : Try.prog.follows .mixedOrders = true := Try.checked.mixed
 refine FnOK.of_body Try.func26 (by kernel_rfl) rfl (C := (mkCtx tyL [(26, (value_spn fuel)), (40, truthOf_sp), (41, truthValue_sp), (42, flag_sp), (43, combined_sp)])) hC.ty (by kernel_rfl) ?_
 intro (e : Xpr) (row : List Val) hwf hpre E
 have hpre : (VXr row e) ∧ SizeOf.sizeOf e < fuel + 1 := hpre
 have hw_e : Wf ⟨(.named 1), (e : Xpr)⟩ := hwf _ (List.Mem.head _)
 obtain ⟨hr_e_Kind, hr_e_Col, hl_e_Kids⟩ := Xpr.wfl hw_e
 have hw_row : Wf ⟨(.slice (.named 0)), (row : List Val)⟩ := hwf _ (List.Mem.tail _ (List.Mem.head _))
 have hl_row : ((List.length row : Nat) : Int) ≤ 9223372036854775807 := hw_row.len
 have hn := hpre.1.node
 have hnk := hn.kids
 have hkc := kids_cases (Xpr.Kind e)
 have hcol := hn.col
 have e0 : value_r (fuel + 1) e row = value_r (fuel + 1) e row := rfl
 refine AW.seq (AW.r1 hC [0, 1, 4] [16] ⟨[(0, sR4 e), (1, sD8 row), (4, .ref 16 1 0)], [(16, .box 1 [sB false, sI 0])]⟩ ?_)
 refine AW.seq (AW.seq (AW.r1 hC [0, 1, 4, 9] [16] ⟨[(0, sR4 e), (1, sD8 row), (4, .ref 16 1 0), (9, sI (Xpr.Kind e))], [(16, .box 1 [sB false, sI 0])]⟩ ?_))
 refine AW.block (AW.seq (AW.r1 hC [0, 1, 4, 9, 10] [16] ⟨[(0, sR4 e), (1, sD8 row), (4, .ref 16 1 0), (9, sI (Xpr.Kind e)), (10, sB ((Xpr.Kind e) == 1))], [(16, .box 1 [sB false, sI 0])]⟩ ?_))
 refine AW.cd ((Xpr.Kind e) == 1) ?_ ?_
 ·
  intro h1
  have h1q := (Go.Am.beq_pos h1)
  have e2 := e0.trans (Go.Am.bif_t h1)
  refine AW.seq (AW.r0 hC [4] [16] ⟨[(4, .ref 16 1 0)], [(16, .box 1 [sB (Val.Null (List.getD row (Int.toNat (Xpr.Col e)) Val.zero)), sI (Val.N (List.getD row (Int.toNat (Xpr.Col e)) Val.zero))])]⟩ [IX (Xpr.Col e) ((List.length row : Nat) : Int)] ?_ ?_)
  ·
   refine ⟨?_, trivial⟩
   ·
    refine IX.of ?_
    first | omega | (have := truthOf_b ((value_r fuel) (List.getD (Xpr.Kids e) 0 Xpr.zero) row); omega)
  exact AW.ret (AW.retE (β := Val) (fun v => [⟨(.named 0), v⟩]) (fun v => []) (v := (List.getD row (Int.toNat (Xpr.Col e)) Val.zero)) e2 (by kernel_rfl) rfl rfl)
 ·
  intro h3
  have h3q := (Go.Am.beq_neg h3)
  have e4 := e0.trans (Go.Am.bif_f h3)
  refine AW.seq (AW.r1 hC [0, 1, 4, 19] [16] ⟨[(0, sR4 e), (1, sD8 row), (4, .ref 16 1 0), (19, sB ((Xpr.Kind e) == 2))], [(16, .box 1 [sB false, sI 0])]⟩ ?_)
  refine AW.cd ((Xpr.Kind e) == 2) ?_ ?_
  ·
   intro h5
   have h5q := (Go.Am.beq_pos h5)
   have e6 := e4.trans (Go.Am.bif_t h5)
   refine AW.seq (AW.r1 hC [4] [16] ⟨[(4, .ref 16 1 0)], [(16, .box 1 [sB (Val.Null (Xpr.V e)), sI (Val.N (Xpr.V e))])]⟩ ?_)
   exact AW.ret (AW.retE (β := Val) (fun v => [⟨(.named 0), v⟩]) (fun v => []) (v := (Xpr.V e)) e6 (by kernel_rfl) rfl rfl)
  ·
   intro h7
   have h7q := (Go.Am.beq_neg h7)
   have e8 := e4.trans (Go.Am.bif_f h7)
   refine AW.kp [0, 1, 4] [16] ⟨[(0, sR4 e), (1, sD8 row), (4, .ref 16 1 0)], [(16, .box 1 [sB false, sI 0])]⟩ ?_
   refine AW.skip (AW.seq (AW.r0 hC [0, 1, 4, 5] [16, 20] ⟨[(0, sR4 e), (1, sD8 row), (4, .ref 16 1 0), (5, .ref 20 1 0)], [(16, .box 1 [sB false, sI 0]), (20, .box 1 [sB (Val.Null ((value_r fuel) (List.getD (Xpr.Kids e) 0 Xpr.zero) row)), sI (Val.N ((value_r fuel) (List.getD (Xpr.Kids e) 0 Xpr.zero) row))])]⟩ [IX (0 : Int) ((List.length (Xpr.Kids e) : Nat) : Int), ((VXr row (List.getD (Xpr.Kids e) 0 Xpr.zero)) ∧ SizeOf.sizeOf (List.getD (Xpr.Kids e) 0 Xpr.zero) < fuel)] ?_ ?_))
   ·
    refine ⟨?_, ?_, trivial⟩
    ·
     refine IX.of ?_
     first | omega | (have := truthOf_b ((value_r fuel) (List.getD (Xpr.Kids e) 0 Xpr.zero) row); omega)
    ·
     exact ⟨hpre.1.kid (by omega), Nat.lt_of_lt_of_le (kid_lt (by omega)) (Nat.le_of_lt_succ hpre.2)⟩
   refine AW.seq (AW.seq (AW.r1 hC [0, 1, 4, 5, 35] [16, 20] ⟨[(0, sR4 e), (1, sD8 row), (4, .ref 16 1 0), (5, .ref 20 1 0), (35, sI (Xpr.Kind e))], [(16, .box 1 [sB false, sI 0]), (20, .box 1 [sB (Val.Null ((value_r fuel) (List.getD (Xpr.Kids e) 0 Xpr.zero) row)), sI (Val.N ((value_r fuel) (List.getD (Xpr.Kids e) 0 Xpr.zero) row))])]⟩ ?_))
   refine AW.block (AW.seq (AW.r1 hC [0, 1, 4, 5, 35, 36] [16, 20] ⟨[(0, sR4 e), (1, sD8 row), (4, .ref 16 1 0), (5, .ref 20 1 0), (35, sI (Xpr.Kind e)), (36, sB ((Xpr.Kind e) == 10))], [(16, .box 1 [sB false, sI 0]), (20, .box 1 [sB (Val.Null ((value_r fuel) (List.getD (Xpr.Kids e) 0 Xpr.zero) row)), sI (Val.N ((value_r fuel) (List.getD (Xpr.Kids e) 0 Xpr.zero) row))])]⟩ ?_))
   refine AW.cd ((Xpr.Kind e) == 10) ?_ ?_
   ·
    intro h9
    have h9q := (Go.Am.beq_pos h9)
    have e10 := e8.trans (Go.Am.bif_t h9)
    refine AW.seq (AW.r0 hC [4] [16] ⟨[(4, .ref 16 1 0)], [(16, .box 1 [sB (Val.Null (truthValue (2 - (truthOf ((value_r fuel) (List.getD (Xpr.Kids e) 0 Xpr.zero) row))))), sI (Val.N (truthValue (2 - (truthOf ((value_r fuel) (List.getD (Xpr.Kids e) 0 Xpr.zero) row)))))])]⟩ [(True), R64 (2 - (truthOf ((value_r fuel) (List.getD (Xpr.Kids e) 0 Xpr.zero) row))), (True)] ?_ ?_)
    ·
     refine ⟨?_, ?_, ?_, trivial⟩
     ·
      trivial
     ·
      refine R64.of ?_
      first | omega | (have := truthOf_b ((value_r fuel) (List.getD (Xpr.Kids e) 0 Xpr.zero) row); omega)
     ·
      trivial
    exact AW.ret (AW.retE (β := Val) (fun v => [⟨(.named 0), v⟩]) (fun v => []) (v := (truthValue (2 - (truthOf ((value_r fuel) (List.getD (Xpr.Kids e) 0 Xpr.zero) row))))) e10 (by kernel_rfl) rfl rfl)
   ·
    intro h11
    have h11q := (Go.Am.beq_neg h11)
    have e12 := e8.trans (Go.Am.bif_f h11)
    refine AW.seq (AW.r1 hC [0, 1, 4, 5, 42] [16, 20] ⟨[(0, sR4 e), (1, sD8 row), (4, .ref 16 1 0), (5, .ref 20 1 0), (42, sB ((Xpr.Kind e) == 11))], [(16, .box 1 [sB false, sI 0]), (20, .box 1 [sB (Val.Null ((value_r fuel) (List.getD (Xpr.Kids e) 0 Xpr.zero) row)), sI (Val.N ((value_r fuel) (List.getD (Xpr.Kids e) 0 Xpr.zero) row))])]⟩ ?_)
    refine AW.cd ((Xpr.Kind e) == 11) ?_ ?_
    ·
     intro h13
     have h13q := (Go.Am.beq_pos h13)
     have e14 := e12.trans (Go.Am.bif_t h13)
     refine AW.seq (AW.r0 hC [4] [16] ⟨[(4, .ref 16 1 0)], [(16, .box 1 [sB (Val.Null (flag (Val.Null ((value_r fuel) (List.getD (Xpr.Kids e) 0 Xpr.zero) row)))), sI (Val.N (flag (Val.Null ((value_r fuel) (List.getD (Xpr.Kids e) 0 Xpr.zero) row))))])]⟩ [(True)] ?_ ?_)
     ·
      refine ⟨?_, trivial⟩
      ·
       trivial
     exact AW.ret (AW.retE (β := Val) (fun v => [⟨(.named 0), v⟩]) (fun v => []) (v := (flag (Val.Null ((value_r fuel) (List.getD (Xpr.Kids e) 0 Xpr.zero) row)))) e14 (by kernel_rfl) rfl rfl)
    ·
     intro h15
     have h15q := (Go.Am.beq_neg h15)
     have e16 := e12.trans (Go.Am.bif_f h15)
     refine AW.kp [0, 1, 4, 5] [16, 20] ⟨[(0, sR4 e), (1, sD8 row), (4, .ref 16 1 0), (5, .ref 20 1 0)], [(16, .box 1 [sB false, sI 0]), (20, .box 1 [sB (Val.Null ((value_r fuel) (List.getD (Xpr.Kids e) 0 Xpr.zero) row)), sI (Val.N ((value_r fuel) (List.getD (Xpr.Kids e) 0 Xpr.zero) row))])]⟩ ?_
     refine AW.skip (AW.seq (AW.d0 hC hM [4] [16] ⟨[(4, .ref 16 1 0)], [(16, .box 1 [sB (Val.Null (combined (Xpr.Kind e) ((value_r fuel) (List.getD (Xpr.Kids e) 0 Xpr.zero) row) ((value_r fuel) (List.getD (Xpr.Kids e) 1 Xpr.zero) row))), sI (Val.N (combined (Xpr.Kind e) ((value_r fuel) (List.getD (Xpr.Kids e) 0 Xpr.zero) row) ((value_r fuel) (List.getD (Xpr.Kids e) 1 Xpr.zero) row)))])]⟩ [IX (1 : Int) ((List.length (Xpr.Kids e) : Nat) : Int), ((VXr row (List.getD (Xpr.Kids e) 1 Xpr.zero)) ∧ SizeOf.sizeOf (List.getD (Xpr.Kids e) 1 Xpr.zero) < fuel), (((-9999 ≤ Val.N ((value_r fuel) (List.getD (Xpr.Kids e) 0 Xpr.zero) row) ∧ Val.N ((value_r fuel) (List.getD (Xpr.Kids e) 0 Xpr.zero) row) ≤ 9999) ∧ (-9999 ≤ Val.N ((value_r fuel) (List.getD (Xpr.Kids e) 1 Xpr.zero) row) ∧ Val.N ((value_r fuel) (List.getD (Xpr.Kids e) 1 Xpr.zero) row) ≤ 9999)))] ?_ ?_))
     ·
      refine ⟨?_, ?_, ?_, trivial⟩
      ·
       refine IX.of ?_
       first | omega | (have := truthOf_b ((value_r fuel) (List.getD (Xpr.Kids e) 0 Xpr.zero) row); omega)
      ·
       exact ⟨hpre.1.kid (by omega), Nat.lt_of_lt_of_le (kid_lt (by omega)) (Nat.le_of_lt_succ hpre.2)⟩
      ·
       exact ⟨(value_vv fuel _ _ (hpre.1.kid (by omega))).n, (value_vv fuel _ _ (hpre.1.kid (by omega))).n⟩
     exact AW.ret (AW.retE (β := Val) (fun v => [⟨(.named 0), v⟩]) (fun v => []) (v := (combined (Xpr.Kind e) ((value_r fuel) (List.getD (Xpr.Kids e) 0 Xpr.zero) row) ((value_r fuel) (List.getD (Xpr.Kids e) 1 Xpr.zero) row))) e16 (by kernel_rfl) rfl rfl)

theorem value_fu : AllTV (value_sp.ps.map PK.ty) (fun tvs => value_sp.pre tvs → ∃ k, (value_spn k).pre tvs ∧ (value_spn k).fn tvs = value_sp.fn tvs ∧ (value_spn k).bx tvs = value_sp.bx tvs) :=
 (fun (e : Xpr) (row : List Val) h => ⟨SizeOf.sizeOf e + 1, (show (VXr row e) ∧ SizeOf.sizeOf e < SizeOf.sizeOf e + 1 from ⟨h, Nat.lt_succ_self _⟩), (show (value_spn (SizeOf.sizeOf e + 1)).fn [⟨(.named 1), (e : Xpr)⟩, ⟨(.slice (.named 0)), (row : List Val)⟩] = ([⟨(.named 0), (value_r (SizeOf.sizeOf e + 1) e row)⟩] : List TV) from by kernel_rfl).trans (show ([⟨(.named 0), (value_r (SizeOf.sizeOf e + 1) e row)⟩] : List TV) = value_sp.fn [⟨(.named 1), (e : Xpr)⟩, ⟨(.slice (.named 0)), (row : List Val)⟩] from by kernel_rfl), by kernel_rfl⟩)

theorem value_ok : FnOK Try.prog 26 value_sp := FnOK.of_fuel value_okn (fun _ => rfl) (fun _ => rfl) (AllTV.get value_fu)

/-- A value for each state. -/
def exV : Fin 3 → Val
 | 0 => inumber 0
 | 1 => inumber 1
 | 2 => inull

def ixV (v : Val) : Fin 3 := bif v.Null then 2 else bif v.N == 0 then 0 else 1

theorem ix_truth (v : Val) : truthOf (exV (ixV v)) = truthOf v := by
 unfold truthOf ixV
 cases hv : v.Null with
 | true => simp only [cond_true]; rfl
 | false =>
  simp only [cond_false]
  cases (v.N == 0) <;> rfl

theorem ix_state (v : Val) : istateOf (exV (ixV v)) = istateOf v := by
 unfold istateOf ixV
 cases hv : v.Null with
 | true => simp only [cond_true]; rfl
 | false =>
  simp only [cond_false]
  cases (v.N == 0) <;> rfl

theorem comb_ix {k : Int} (hk : k = 8 ∨ k = 9) (v w : Val) : combined k v w = combined k (exV (ixV v)) (exV (ixV w)) := by
 rcases hk with rfl | rfl
 ·
  simp only [combined, Int.reduceBEq, cond_true, ix_truth]
 ·
  simp only [combined, Int.reduceBEq, cond_true, cond_false, ix_truth]

theorem cs_snd8 : ∀ (x y : Fin 3) (a b : Fin 8), (!(bits .and .i64 (a.val : Int) (istateOf (exV x)) == istateOf (exV x) && bits .and .i64 (b.val : Int) (istateOf (exV y)) == istateOf (exV y))) = true ∨
  (bits .and .i64 (combinedStates 8 (a.val : Int) (b.val : Int)) (istateOf (combined 8 (exV x) (exV y))) == istateOf (combined 8 (exV x) (exV y))) = true := by decide +kernel
theorem cs_snd9 : ∀ (x y : Fin 3) (a b : Fin 8), (!(bits .and .i64 (a.val : Int) (istateOf (exV x)) == istateOf (exV x) && bits .and .i64 (b.val : Int) (istateOf (exV y)) == istateOf (exV y))) = true ∨
  (bits .and .i64 (combinedStates 9 (a.val : Int) (b.val : Int)) (istateOf (combined 9 (exV x) (exV y))) == istateOf (combined 9 (exV x) (exV y))) = true := by decide +kernel

/-- With a null on a side: null is among the states; without: what has a number. -/
theorem cs_snd3 : ∀ (x y : Fin 3) (a b : Fin 8), (!(bits .and .i64 (a.val : Int) (istateOf (exV x)) == istateOf (exV x) && bits .and .i64 (b.val : Int) (istateOf (exV y)) == istateOf (exV y))) = true ∨
  ((if x = 2 ∨ y = 2 then (bits .and .i64 (combinedStates 3 (a.val : Int) (b.val : Int)) 4 == 4) && (bits .and .i64 (combinedStates 6 (a.val : Int) (b.val : Int)) 4 == 4) else (bits .and .i64 (combinedStates 3 (a.val : Int) (b.val : Int)) 7 == 7) && (bits .and .i64 (combinedStates 6 (a.val : Int) (b.val : Int)) 3 == 3))) = true := by decide +kernel

theorem and7 : ∀ s : Fin 8, ((!(bits .and .i64 (s.val : Int) 7 == 7)) = true ∨ (bits .and .i64 (s.val : Int) 1 == 1 && bits .and .i64 (s.val : Int) 2 == 2 && bits .and .i64 (s.val : Int) 4 == 4) = true) ∧ ((!(bits .and .i64 (s.val : Int) 3 == 3)) = true ∨ (bits .and .i64 (s.val : Int) 1 == 1 && bits .and .i64 (s.val : Int) 2 == 2) = true) := by decide +kernel

theorem state_cases (v : Val) : istateOf v = 1 ∨ istateOf v = 2 ∨ istateOf v = 4 := by
 unfold istateOf
 cases v.Null with
 | true => exact .inr (.inr rfl)
 | false =>
  rw [cond_false]
  cases (v.N == 0)
  ·
   exact .inr (.inl rfl)
  ·
   exact .inl rfl

theorem flag_state (b : Bool) : istateOf (flag b) = 1 ∨ istateOf (flag b) = 2 := by
 cases b
 ·
  exact .inl rfl
 ·
  exact .inr rfl

theorem sub_of7 {s : Int} (hs : 0 ≤ s ∧ s ≤ 7) (h : (bits .and .i64 s 7 == 7) = true) (v : Val) : Sub (istateOf v) s := by
 obtain ⟨n, rfl⟩ := un8 hs
 have := imp2 (and7 n).1 h
 simp only [Bool.and_eq_true, beq_iff_eq] at this
 unfold Sub
 rcases state_cases v with e | e | e <;> rw [e]
 ·
  exact this.1.1
 ·
  exact this.1.2
 ·
  exact this.2

theorem sub_of3 {s : Int} (hs : 0 ≤ s ∧ s ≤ 7) (h : (bits .and .i64 s 3 == 3) = true) (b : Bool) : Sub (istateOf (flag b)) s := by
 obtain ⟨n, rfl⟩ := un8 hs
 have := imp2 (and7 n).2 h
 simp only [Bool.and_eq_true, beq_iff_eq] at this
 unfold Sub
 rcases flag_state b with e | e <;> rw [e]
 ·
  exact this.1
 ·
  exact this.2

theorem comb_sound {k : Int} (hk : 3 ≤ k ∧ k ≤ 9) {v w : Val} {a b : Int} (ha : 0 ≤ a ∧ a ≤ 7) (hb : 0 ≤ b ∧ b ≤ 7) (h1 : Sub (istateOf v) a) (h2 : Sub (istateOf w) b) : Sub (istateOf (combined k v w)) (combinedStates k a b) := by
 have hcb := combinedStates_b k ha hb
 obtain ⟨n, rfl⟩ := un8 ha
 obtain ⟨m, rfl⟩ := un8 hb
 have hh : (bits .and .i64 (n.val : Int) (istateOf (exV (ixV v))) == istateOf (exV (ixV v)) && bits .and .i64 (m.val : Int) (istateOf (exV (ixV w))) == istateOf (exV (ixV w))) = true := by
  rw [ix_state, ix_state]
  unfold Sub at h1 h2
  rw [h1, h2]
  simp
 by_cases h8 : k = 8 ∨ k = 9
 ·
  rw [comb_ix h8]
  unfold Sub
  rcases h8 with rfl | rfl
  ·
   exact beq_iff_eq.1 (imp2 (cs_snd8 _ _ n m) hh)
  ·
   exact beq_iff_eq.1 (imp2 (cs_snd9 _ _ n m) hh)
 ·
  have h3 := imp2 (cs_snd3 _ _ n m) hh
  rw [cs_kind hk] at hcb ⊢
  have ne : ∀ j : Int, k ≠ j → (k == j) = false := fun j h => beq_false_of_ne h
  have hnull : (ixV v = 2 ∨ ixV w = 2) ↔ (bif v.Null then true else w.Null) = true := by
   unfold ixV
   cases v.Null <;> cases w.Null <;> cases (v.N == 0) <;> cases (w.N == 0) <;> decide
  unfold combined
  rw [ne 8 (by omega), ne 9 (by omega), cond_false, cond_false]
  by_cases hn : (bif v.Null then true else w.Null) = true
  ·
   rw [if_pos (hnull.2 hn)] at h3
   simp only [Bool.and_eq_true] at h3
   rw [hn, cond_true]
   have e4 : istateOf inull = 4 := rfl
   unfold Sub
   rw [e4]
   split
   ·
    exact beq_iff_eq.1 h3.1
   ·
    rw [if_pos (by omega)]
    exact beq_iff_eq.1 h3.2
  ·
   rw [if_neg (fun h => hn (hnull.1 h))] at h3
   simp only [Bool.and_eq_true] at h3
   rw [Bool.not_eq_true] at hn
   rw [hn, cond_false]
   by_cases h5 : k ≤ 5
   ·
    rw [if_pos h5] at hcb ⊢
    exact sub_of7 hcb h3.1 _
   ·
    rw [if_neg h5, if_pos (show k ≤ 7 by omega)] at hcb ⊢
    rw [ne 3 (by omega), ne 4 (by omega), ne 5 (by omega), cond_false, cond_false, cond_false]
    cases (k == 6) <;> exact sub_of3 hcb h3.2 _

theorem not_snd : ∀ (x : Fin 3) (a : Fin 8), (!(bits .and .i64 (a.val : Int) (istateOf (exV x)) == istateOf (exV x))) = true ∨
  (bits .and .i64 (notStates (a.val : Int)) (istateOf (truthValue (2 - truthOf (exV x)))) == istateOf (truthValue (2 - truthOf (exV x)))) = true := by decide +kernel
theorem nt_snd : ∀ (x : Fin 3) (a : Fin 8), (!(bits .and .i64 (a.val : Int) (istateOf (exV x)) == istateOf (exV x))) = true ∨
  (bits .and .i64 (nt (a.val : Int)) (istateOf (flag (exV x).Null)) == istateOf (flag (exV x).Null)) = true := by decide +kernel

theorem ix_null (v : Val) : (exV (ixV v)).Null = v.Null := by
 unfold ixV
 cases v.Null with
 | true => rfl
 | false =>
  rw [cond_false]
  cases (v.N == 0) <;> rfl

theorem ioutcomes_sound {st : List Int} {row : List Val} (hl : st.length = row.length) (hS : ∀ j, j < st.length → Sub (istateOf (row.getD j Val.zero)) (st.getD j 0)) :
  ∀ (f : Nat) (e : Xpr), SizeOf.sizeOf e < f → VX st e → Sub (istateOf (value_r f e row)) (ioutcomes_r f e st) := by
 intro f
 induction f with
 | zero => intro e hf; omega
 | succ f ih =>
  intro e hf h
  have hn := h.node
  have hnk := hn.kids
  have hkc := kids_cases (Xpr.Kind e)
  unfold ioutcomes_r value_r
  by_cases h1 : e.Kind = 1
  ·
   rw [show (e.Kind == 1) = true from beq_iff_eq.2 h1, cond_true, cond_true]
   have hc := hn.col h1
   exact hS _ (by omega)
  ·
   rw [show (e.Kind == 1) = false from beq_false_of_ne h1, cond_false, cond_false]
   by_cases h2 : e.Kind = 2
   ·
    rw [show (e.Kind == 2) = true from beq_iff_eq.2 h2, cond_true, cond_true]
    unfold Sub
    rcases state_cases e.V with e' | e' | e' <;> rw [e'] <;> decide
   ·
    rw [show (e.Kind == 2) = false from beq_false_of_ne h2, cond_false, cond_false]
    have l0 := kid_lt (t := e) (i := 0) (by omega)
    have a := ioutcomes_b f _ st (h.kid (i := 0) (by omega))
    have s0 := ih _ (by omega) (h.kid (i := 0) (by omega))
    generalize value_r f (List.getD e.Kids 0 Xpr.zero) row = v at *
    by_cases h3 : e.Kind = 10
    ·
     rw [show (e.Kind == 10) = true from beq_iff_eq.2 h3, cond_true, cond_true]
     obtain ⟨n, hn⟩ := un8 a
     rw [hn] at s0 ⊢
     have := imp2 (not_snd (ixV v) n) (by rw [ix_state]; unfold Sub at s0; rw [s0]; simp)
     rw [ix_truth] at this
     exact beq_iff_eq.1 this
    ·
     rw [show (e.Kind == 10) = false from beq_false_of_ne h3, cond_false, cond_false]
     by_cases h4 : e.Kind = 11
     ·
      rw [show (e.Kind == 11) = true from beq_iff_eq.2 h4, cond_true, cond_true]
      obtain ⟨n, hn⟩ := un8 a
      rw [hn] at s0 ⊢
      have := imp2 (nt_snd (ixV v) n) (by rw [ix_state]; unfold Sub at s0; rw [s0]; simp)
      rw [ix_null] at this
      exact beq_iff_eq.1 this
     ·
      rw [show (e.Kind == 11) = false from beq_false_of_ne h4, cond_false, cond_false]
      have l1 := kid_lt (t := e) (i := 1) (by omega)
      exact comb_sound (by omega) a (ioutcomes_b f _ st (h.kid (i := 1) (by omega))) s0 (ih _ (by omega) (h.kid (i := 1) (by omega)))

end
end Go.Proofs.Ytophfihhdelbiaa
