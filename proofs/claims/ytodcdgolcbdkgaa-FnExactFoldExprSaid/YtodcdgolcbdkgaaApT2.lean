/-
  A part of the proof of this claim (ApT2): what functions of the program compute, and plain facts of that. No conditions.
-/
import Derived.Test.YtodcdgolcbdkgaaApT1
set_option linter.all false
namespace Go.Proofs.Ytodcdgolcbdkgaa
open Go Go.Am
noncomputable section

theorem number_eq (n : Int) : number n = numberOrNull n := by
 unfold number numberOrNull inRange valValid inumber inull
 by_cases h1 : -9999 ≤ n <;> by_cases h2 : n ≤ 9999 <;> simp [h1, h2]

theorem flag_eq (b : Bool) : flag b = Val.mk false (toInt b) := by cases b <;> rfl

theorem not_eq (v : Val) : truthValue (2 - truthOf v) = ofTruth (notTruth (truth v)) := by
 unfold truthOf truth
 cases v.Null with
 | true => rfl
 | false => cases (v.N == 0) <;> rfl

theorem combine_eq (k : Int) (a b : Val) : combine k a b = combined k a b := by
 unfold combine combined
 simp only [number_eq, flag_eq]
 have h8 : ofTruth (andTruth (truth a) (truth b)) = truthValue (if (truthOf b) < (truthOf a) then (truthOf b) else (truthOf a)) := by
  unfold truthOf truth
  cases a.Null <;> cases b.Null <;> cases (a.N == 0) <;> cases (b.N == 0) <;> rfl
 have h9 : ofTruth (notTruth (andTruth (notTruth (truth a)) (notTruth (truth b)))) = truthValue (if (truthOf b) > (truthOf a) then (truthOf b) else (truthOf a)) := by
  unfold truthOf truth
  cases a.Null <;> cases b.Null <;> cases (a.N == 0) <;> cases (b.N == 0) <;> rfl
 rw [h8, h9]
 rfl

def evalExpr_r : Nat → Xpr → (List Val) → Val
 | 0, e, row => Val.zero
 | fuel + 1, e, row => (bif ((Xpr.Kind e) == 1) then (List.getD row (Int.toNat (Xpr.Col e)) Val.zero) else (bif ((Xpr.Kind e) == 2) then (Xpr.V e) else (bif ((Xpr.Kind e) == 10) then (ofTruth (notTruth (truth ((evalExpr_r fuel) (List.getD (Xpr.Kids e) 0 Xpr.zero) row)))) else (bif ((Xpr.Kind e) == 11) then (Val.mk false (toInt (Val.Null ((evalExpr_r fuel) (List.getD (Xpr.Kids e) 0 Xpr.zero) row)))) else (combine (Xpr.Kind e) ((evalExpr_r fuel) (List.getD (Xpr.Kids e) 0 Xpr.zero) row) ((evalExpr_r fuel) (List.getD (Xpr.Kids e) 1 Xpr.zero) row))))))

def evalExpr (e : Xpr) (row : List Val) : Val := evalExpr_r (SizeOf.sizeOf e + 1) e row

def evalExpr_spn (fuel : Nat) : FnSpec := mkSpec [.val (.named 1), .val (.slice (.named 0))] [.val (.named 0)] (fun (e : Xpr) (row : List Val) => (VXr row e) ∧ SizeOf.sizeOf e < fuel) (fun (e : Xpr) (row : List Val) => [⟨(.named 0), (evalExpr_r fuel e row)⟩])

def evalExpr_sp : FnSpec := mkSpec [.val (.named 1), .val (.slice (.named 0))] [.val (.named 0)] (fun (e : Xpr) (row : List Val) => VXr row e) (fun (e : Xpr) (row : List Val) => [⟨(.named 0), (evalExpr e row)⟩])

theorem eval_eq : ∀ (f : Nat) (e : Xpr) (row : List Val), evalExpr_r f e row = value_r f e row := by
 intro f
 induction f with
 | zero => intro e row; rfl
 | succ f ih =>
  intro e row
  unfold evalExpr_r value_r
  simp only [ih, combine_eq, flag_eq, not_eq]

theorem eval_vv (f : Nat) (e : Xpr) (row : List Val) (h : VXr row e) : VV (evalExpr_r f e row) := by
 rw [eval_eq]
 exact value_vv f e row h

theorem evalExpr_okn (fuel : Nat) : FnOK Try.prog 129 (evalExpr_spn fuel) := by
 induction fuel with
 | zero => exact FnOK.never Try.func129 (by kernel_rfl) rfl (fun _ _ h => absurd h.2 (Nat.not_lt_zero _))
 | succ fuel ih => ?_
 have hC : CtxOK Try.prog (mkCtx tyL [(129, (evalExpr_spn fuel)), (148, toInt_sp), (149, truth_sp), (154, ofTruth_sp), (155, notTruth_sp), (156, combine_sp)]) := CtxOK.cons ih (CtxOK.cons toInt_ok (CtxOK.cons truth_ok (CtxOK.cons ofTruth_ok (CtxOK.cons notTruth_ok (CtxOK.cons combine_ok (CtxOK.nil tyOK))))))
 have hM : Try.prog.follows .mixedOrders = true := Try.checked.mixed
 refine FnOK.of_body Try.func129 (by kernel_rfl) rfl (C := (mkCtx tyL [(129, (evalExpr_spn fuel)), (148, toInt_sp), (149, truth_sp), (154, ofTruth_sp), (155, notTruth_sp), (156, combine_sp)])) hC.ty (by kernel_rfl) ?_
 intro (e : Xpr) (row : List Val) hwf hpre E
 have hpre : (VXr row e) ∧ SizeOf.sizeOf e < fuel + 1 := hpre
 have hw_e : Wf ⟨(.named 1), (e : Xpr)⟩ := hwf _ (List.Mem.head _)
 obtain ⟨hr_e_Kind, hr_e_Col, hl_e_Kids⟩ := Xpr.wfl hw_e
 have hw_row : Wf ⟨(.slice (.named 0)), (row : List Val)⟩ := hwf _ (List.Mem.tail _ (List.Mem.head _))
 have hl_row : ((List.length row : Nat) : Int) ≤ 9223372036854775807 := hw_row.len
 have hn := hpre.1.node
 have hnk := hn.kids
 have hkc := kids_cases (Xpr.Kind e)
 have hcol := hn.col
 have e0 : evalExpr_r (fuel + 1) e row = evalExpr_r (fuel + 1) e row := rfl
 refine AW.seq (AW.r1 hC [1, 2, 4] [8, 16] ⟨[(1, sD8 row), (2, .ref 8 1 0), (4, .ref 16 1 0)], [(8, .box 1 [sI (Xpr.Kind e), sI (Xpr.Col e), sB (Val.Null (Xpr.V e)), sI (Val.N (Xpr.V e)), sD9 (Xpr.Kids e)]), (16, .box 1 [sB false, sI 0])]⟩ ?_)
 refine AW.seq (AW.seq (AW.r1 hC [1, 2, 4, 6] [8, 16] ⟨[(1, sD8 row), (2, .ref 8 1 0), (4, .ref 16 1 0), (6, sI (Xpr.Kind e))], [(8, .box 1 [sI (Xpr.Kind e), sI (Xpr.Col e), sB (Val.Null (Xpr.V e)), sI (Val.N (Xpr.V e)), sD9 (Xpr.Kids e)]), (16, .box 1 [sB false, sI 0])]⟩ ?_))
 refine AW.block (AW.seq (AW.r1 hC [1, 2, 4, 6, 7] [8, 16] ⟨[(1, sD8 row), (2, .ref 8 1 0), (4, .ref 16 1 0), (6, sI (Xpr.Kind e)), (7, sB ((Xpr.Kind e) == 1))], [(8, .box 1 [sI (Xpr.Kind e), sI (Xpr.Col e), sB (Val.Null (Xpr.V e)), sI (Val.N (Xpr.V e)), sD9 (Xpr.Kids e)]), (16, .box 1 [sB false, sI 0])]⟩ ?_))
 refine AW.cd ((Xpr.Kind e) == 1) ?_ ?_
 ·
  intro h1
  have h1q := (Go.Am.beq_pos h1)
  have e2 := e0.trans (Go.Am.bif_t h1)
  refine AW.seq (AW.r0 hC [4] [16] ⟨[(4, .ref 16 1 0)], [(16, .box 1 [sB (Val.Null (List.getD row (Int.toNat (Xpr.Col e)) Val.zero)), sI (Val.N (List.getD row (Int.toNat (Xpr.Col e)) Val.zero))])]⟩ [IX (Xpr.Col e) ((List.length row : Nat) : Int)] ?_ ?_)
  ·
   refine ⟨?_, trivial⟩
   ·
    refine IX.of ?_
    omega
  exact AW.ret (AW.retE (β := Val) (fun v => [⟨(.named 0), v⟩]) (fun v => []) (v := (List.getD row (Int.toNat (Xpr.Col e)) Val.zero)) e2 (by kernel_rfl) rfl rfl)
 ·
  intro h3
  have h3q := (Go.Am.beq_neg h3)
  have e4 := e0.trans (Go.Am.bif_f h3)
  refine AW.seq (AW.r1 hC [1, 2, 4, 6, 14] [8, 16] ⟨[(1, sD8 row), (2, .ref 8 1 0), (4, .ref 16 1 0), (6, sI (Xpr.Kind e)), (14, sB ((Xpr.Kind e) == 2))], [(8, .box 1 [sI (Xpr.Kind e), sI (Xpr.Col e), sB (Val.Null (Xpr.V e)), sI (Val.N (Xpr.V e)), sD9 (Xpr.Kids e)]), (16, .box 1 [sB false, sI 0])]⟩ ?_)
  refine AW.cd ((Xpr.Kind e) == 2) ?_ ?_
  ·
   intro h5
   have h5q := (Go.Am.beq_pos h5)
   have e6 := e4.trans (Go.Am.bif_t h5)
   refine AW.seq (AW.r1 hC [4] [16] ⟨[(4, .ref 16 1 0)], [(16, .box 1 [sB (Val.Null (Xpr.V e)), sI (Val.N (Xpr.V e))])]⟩ ?_)
   exact AW.ret (AW.retE (β := Val) (fun v => [⟨(.named 0), v⟩]) (fun v => []) (v := (Xpr.V e)) e6 (by kernel_rfl) rfl rfl)
  ·
   intro h7
   have h7q := (Go.Am.beq_neg h7)
   have e8 := e4.trans (Go.Am.bif_f h7)
   refine AW.seq (AW.r1 hC [1, 2, 4, 6, 18] [8, 16] ⟨[(1, sD8 row), (2, .ref 8 1 0), (4, .ref 16 1 0), (6, sI (Xpr.Kind e)), (18, sB ((Xpr.Kind e) == 10))], [(8, .box 1 [sI (Xpr.Kind e), sI (Xpr.Col e), sB (Val.Null (Xpr.V e)), sI (Val.N (Xpr.V e)), sD9 (Xpr.Kids e)]), (16, .box 1 [sB false, sI 0])]⟩ ?_)
   refine AW.cd ((Xpr.Kind e) == 10) ?_ ?_
   ·
    intro h9
    have h9q := (Go.Am.beq_pos h9)
    have e10 := e8.trans (Go.Am.bif_t h9)
    refine AW.seq (AW.r0 hC [4] [16] ⟨[(4, .ref 16 1 0)], [(16, .box 1 [sB (Val.Null (ofTruth (notTruth (truth ((evalExpr_r fuel) (List.getD (Xpr.Kids e) 0 Xpr.zero) row))))), sI (Val.N (ofTruth (notTruth (truth ((evalExpr_r fuel) (List.getD (Xpr.Kids e) 0 Xpr.zero) row)))))])]⟩ [IX (0 : Int) ((List.length (Xpr.Kids e) : Nat) : Int), ((VXr row (List.getD (Xpr.Kids e) 0 Xpr.zero)) ∧ SizeOf.sizeOf (List.getD (Xpr.Kids e) 0 Xpr.zero) < fuel), (True), (0 ≤ (truth ((evalExpr_r fuel) (List.getD (Xpr.Kids e) 0 Xpr.zero) row)) ∧ (truth ((evalExpr_r fuel) (List.getD (Xpr.Kids e) 0 Xpr.zero) row)) ≤ 2), (True)] ?_ ?_)
    ·
     refine ⟨?_, ?_, ?_, ?_, ?_, trivial⟩
     ·
      refine IX.of ?_
      omega
     ·
      exact ⟨hpre.1.kid (by omega), Nat.lt_of_lt_of_le (kid_lt (by omega)) (Nat.le_of_lt_succ hpre.2)⟩
     ·
      trivial
     ·
      have := truth_b ((evalExpr_r fuel) (List.getD (Xpr.Kids e) 0 Xpr.zero) row); omega
     ·
      trivial
    exact AW.ret (AW.retE (β := Val) (fun v => [⟨(.named 0), v⟩]) (fun v => []) (v := (ofTruth (notTruth (truth ((evalExpr_r fuel) (List.getD (Xpr.Kids e) 0 Xpr.zero) row))))) e10 (by kernel_rfl) rfl rfl)
   ·
    intro h11
    have h11q := (Go.Am.beq_neg h11)
    have e12 := e8.trans (Go.Am.bif_f h11)
    refine AW.seq (AW.r1 hC [1, 2, 4, 29] [8, 16] ⟨[(1, sD8 row), (2, .ref 8 1 0), (4, .ref 16 1 0), (29, sB ((Xpr.Kind e) == 11))], [(8, .box 1 [sI (Xpr.Kind e), sI (Xpr.Col e), sB (Val.Null (Xpr.V e)), sI (Val.N (Xpr.V e)), sD9 (Xpr.Kids e)]), (16, .box 1 [sB false, sI 0])]⟩ ?_)
    refine AW.cd ((Xpr.Kind e) == 11) ?_ ?_
    ·
     intro h13
     have h13q := (Go.Am.beq_pos h13)
     have e14 := e12.trans (Go.Am.bif_t h13)
     refine AW.seq (AW.r0 hC [4] [16] ⟨[(4, .ref 16 1 0)], [(16, .box 1 [sB false, sI (toInt (Val.Null ((evalExpr_r fuel) (List.getD (Xpr.Kids e) 0 Xpr.zero) row)))])]⟩ [IX (0 : Int) ((List.length (Xpr.Kids e) : Nat) : Int), ((VXr row (List.getD (Xpr.Kids e) 0 Xpr.zero)) ∧ SizeOf.sizeOf (List.getD (Xpr.Kids e) 0 Xpr.zero) < fuel), (True)] ?_ ?_)
     ·
      refine ⟨?_, ?_, ?_, trivial⟩
      ·
       refine IX.of ?_
       omega
      ·
       exact ⟨hpre.1.kid (by omega), Nat.lt_of_lt_of_le (kid_lt (by omega)) (Nat.le_of_lt_succ hpre.2)⟩
      ·
       trivial
     exact AW.ret (AW.retE (β := Val) (fun v => [⟨(.named 0), v⟩]) (fun v => []) (v := (Val.mk false (toInt (Val.Null ((evalExpr_r fuel) (List.getD (Xpr.Kids e) 0 Xpr.zero) row))))) e14 (by kernel_rfl) rfl rfl)
    ·
     intro h15
     have h15q := (Go.Am.beq_neg h15)
     have e16 := e12.trans (Go.Am.bif_f h15)
     refine AW.kp [1, 2, 4] [8, 16] ⟨[(1, sD8 row), (2, .ref 8 1 0), (4, .ref 16 1 0)], [(8, .box 1 [sI (Xpr.Kind e), sI (Xpr.Col e), sB (Val.Null (Xpr.V e)), sI (Val.N (Xpr.V e)), sD9 (Xpr.Kids e)]), (16, .box 1 [sB false, sI 0])]⟩ ?_
     refine AW.skip (AW.seq (AW.d0 hC hM [4] [16] ⟨[(4, .ref 16 1 0)], [(16, .box 1 [sB (Val.Null (combine (Xpr.Kind e) ((evalExpr_r fuel) (List.getD (Xpr.Kids e) 0 Xpr.zero) row) ((evalExpr_r fuel) (List.getD (Xpr.Kids e) 1 Xpr.zero) row))), sI (Val.N (combine (Xpr.Kind e) ((evalExpr_r fuel) (List.getD (Xpr.Kids e) 0 Xpr.zero) row) ((evalExpr_r fuel) (List.getD (Xpr.Kids e) 1 Xpr.zero) row)))])]⟩ [IX (0 : Int) ((List.length (Xpr.Kids e) : Nat) : Int), ((VXr row (List.getD (Xpr.Kids e) 0 Xpr.zero)) ∧ SizeOf.sizeOf (List.getD (Xpr.Kids e) 0 Xpr.zero) < fuel), IX (1 : Int) ((List.length (Xpr.Kids e) : Nat) : Int), ((VXr row (List.getD (Xpr.Kids e) 1 Xpr.zero)) ∧ SizeOf.sizeOf (List.getD (Xpr.Kids e) 1 Xpr.zero) < fuel), (((-9999 ≤ Val.N ((evalExpr_r fuel) (List.getD (Xpr.Kids e) 0 Xpr.zero) row) ∧ Val.N ((evalExpr_r fuel) (List.getD (Xpr.Kids e) 0 Xpr.zero) row) ≤ 9999) ∧ (-9999 ≤ Val.N ((evalExpr_r fuel) (List.getD (Xpr.Kids e) 1 Xpr.zero) row) ∧ Val.N ((evalExpr_r fuel) (List.getD (Xpr.Kids e) 1 Xpr.zero) row) ≤ 9999)))] ?_ ?_))
     ·
      refine ⟨?_, ?_, ?_, ?_, ?_, trivial⟩
      ·
       refine IX.of ?_
       omega
      ·
       exact ⟨hpre.1.kid (by omega), Nat.lt_of_lt_of_le (kid_lt (by omega)) (Nat.le_of_lt_succ hpre.2)⟩
      ·
       refine IX.of ?_
       omega
      ·
       exact ⟨hpre.1.kid (by omega), Nat.lt_of_lt_of_le (kid_lt (by omega)) (Nat.le_of_lt_succ hpre.2)⟩
      ·
       exact ⟨(eval_vv fuel _ _ (hpre.1.kid (by omega))).n, (eval_vv fuel _ _ (hpre.1.kid (by omega))).n⟩
     exact AW.ret (AW.retE (β := Val) (fun v => [⟨(.named 0), v⟩]) (fun v => []) (v := (combine (Xpr.Kind e) ((evalExpr_r fuel) (List.getD (Xpr.Kids e) 0 Xpr.zero) row) ((evalExpr_r fuel) (List.getD (Xpr.Kids e) 1 Xpr.zero) row))) e16 (by kernel_rfl) rfl rfl)

theorem evalExpr_fu : AllTV (evalExpr_sp.ps.map PK.ty) (fun tvs => evalExpr_sp.pre tvs → ∃ k, (evalExpr_spn k).pre tvs ∧ (evalExpr_spn k).fn tvs = evalExpr_sp.fn tvs ∧ (evalExpr_spn k).bx tvs = evalExpr_sp.bx tvs) :=
 (fun (e : Xpr) (row : List Val) h => ⟨SizeOf.sizeOf e + 1, (show (VXr row e) ∧ SizeOf.sizeOf e < SizeOf.sizeOf e + 1 from ⟨h, Nat.lt_succ_self _⟩), (show (evalExpr_spn (SizeOf.sizeOf e + 1)).fn [⟨(.named 1), (e : Xpr)⟩, ⟨(.slice (.named 0)), (row : List Val)⟩] = ([⟨(.named 0), (evalExpr_r (SizeOf.sizeOf e + 1) e row)⟩] : List TV) from by kernel_rfl).trans (show ([⟨(.named 0), (evalExpr_r (SizeOf.sizeOf e + 1) e row)⟩] : List TV) = evalExpr_sp.fn [⟨(.named 1), (e : Xpr)⟩, ⟨(.slice (.named 0)), (row : List Val)⟩] from by kernel_rfl), by kernel_rfl⟩)

theorem evalExpr_ok : FnOK Try.prog 129 evalExpr_sp := FnOK.of_fuel evalExpr_okn (fun _ => rfl) (fun _ => rfl) (AllTV.get evalExpr_fu)

end
end Go.Proofs.Ytodcdgolcbdkgaa
