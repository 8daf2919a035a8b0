/-
  A part of the proof of this claim (Au5): what functions of the program compute, and plain facts of that. No conditions.
-/
import Derived.Test.YtbgbekpbbcahpaaAu4
set_option linter.all false
namespace Go.Proofs.Ytbgbekpbbcahpaa
open Go Go.Am
noncomputable section

def copyExpr_l0 (self : Xpr → Xpr) (e : Xpr) : Nat → Nat → (List Xpr) → (List Xpr)
 | 0, i, ar112 => ar112
 | k + 1, i, ar112 => (bif (decide (((i : Nat) : Int) < ((List.length (Xpr.Kids e) : Nat) : Int))) then (copyExpr_l0 self e k (i + 1) (ar112 ++ ([(self (List.getD (Xpr.Kids e) i Xpr.zero))] : List Xpr))) else ar112)

def copyExpr_r : Nat → Xpr → Xpr
 | 0, e => Xpr.zero
 | fuel + 1, e => (Go.Am.andThen (copyExpr_l0 (copyExpr_r fuel) e ((List.length (Xpr.Kids e)) - 0 + 1) 0 ([] : List Xpr)) (fun z => (fun (ar112 : List Xpr) => (Xpr.mk (Xpr.Kind e) (Xpr.Col e) (Xpr.V e) ar112)) z))

def copyExpr (e : Xpr) : Xpr := copyExpr_r (SizeOf.sizeOf e + 1) e

def copyExpr_spn (fuel : Nat) : FnSpec := mkSpec [.val (.named 1)] [.val (.named 1)] (fun (e : Xpr) => (∃ w, VL w e) ∧ SizeOf.sizeOf e < fuel) (fun (e : Xpr) => [⟨(.named 1), (copyExpr_r fuel e)⟩])

def copyExpr_sp : FnSpec := mkSpec [.val (.named 1)] [.val (.named 1)] (fun (e : Xpr) => ∃ w, VL w e) (fun (e : Xpr) => [⟨(.named 1), (copyExpr e)⟩])

theorem copyExpr_okn (fuel : Nat) : FnOK Try.prog 39 (copyExpr_spn fuel) := by
 induction fuel with
 | zero => exact FnOK.never Try.func39 (by kernel_rfl) rfl (fun _ h => absurd h.2 (Nat.not_lt_zero _))
 | succ fuel ih => ?_
 have hC : CtxOK Try.prog (mkCtx tyL [(39, (copyExpr_spn fuel))]) := CtxOK.cons ih (CtxOK.nil tyOK)
 have hM : Try.prog.follows .mixedOrders = true := Try.checked.mixed
 refine FnOK.of_body Try.func39 (by kernel_rfl) rfl (C := (mkCtx tyL [(39, (copyExpr_spn fuel))])) hC.ty (by kernel_rfl) ?_
 intro (e : Xpr) hwf hpre E
 have hpre : (∃ w, VL w e) ∧ SizeOf.sizeOf e < fuel + 1 := hpre
 have hw_e : Wf ⟨(.named 1), (e : Xpr)⟩ := hwf _ (List.Mem.head _)
 obtain ⟨hr_e_Kind, hr_e_Col, hl_e_Kids⟩ := Xpr.wfl hw_e
 obtain ⟨w0, hvl⟩ := hpre.1
 have hk2 := hvl.kids2
 have e0 : copyExpr_r (fuel + 1) e = copyExpr_r (fuel + 1) e := rfl
 refine AW.seq (AW.r1 hC [1, 2] [4, 8] ⟨[(1, .ref 4 1 0), (2, .ref 8 1 0)], [(4, .box 1 [sI (Xpr.Kind e), sI (Xpr.Col e), sB (Val.Null (Xpr.V e)), sI (Val.N (Xpr.V e)), sD11 (Xpr.Kids e)]), (8, .box 1 [sI 0, sI 0, sB false, sI 0, .nilsl])]⟩ ?_)
 refine AW.seq (AW.r1 hC [1, 2, 3] [4, 8, 12] ⟨[(1, .ref 4 1 0), (2, .ref 8 1 0), (3, .ref 12 1 0)], [(4, .box 1 [sI (Xpr.Kind e), sI (Xpr.Col e), sB (Val.Null (Xpr.V e)), sI (Val.N (Xpr.V e)), sD11 (Xpr.Kids e)]), (8, .box 1 [sI 0, sI 0, sB false, sI 0, .nilsl]), (12, .box 1 [sI (Xpr.Kind e), sI (Xpr.Col e), sB (Val.Null (Xpr.V e)), sI (Val.N (Xpr.V e)), .nilsl])]⟩ ?_)
 refine AW.seq (AW.seq (AW.r1 hC [1, 2, 3, 4] [4, 8, 12] ⟨[(1, .ref 4 1 0), (2, .ref 8 1 0), (3, .ref 12 1 0), (4, sI 0)], [(4, .box 1 [sI (Xpr.Kind e), sI (Xpr.Col e), sB (Val.Null (Xpr.V e)), sI (Val.N (Xpr.V e)), sD11 (Xpr.Kids e)]), (8, .box 1 [sI 0, sI 0, sB false, sI 0, .nilsl]), (12, .box 1 [sI (Xpr.Kind e), sI (Xpr.Col e), sB (Val.Null (Xpr.V e)), sI (Val.N (Xpr.V e)), .nilsl])]⟩ ?_))
 refine AW.adoptB 12 1 4 112 [sI (Xpr.Kind e), sI (Xpr.Col e), sB (Val.Null (Xpr.V e)), sI (Val.N (Xpr.V e)), .nilsl] (.named 1) (by kernel_rfl) (by kernel_rfl) (by kernel_rfl) ?_
 refine AW.kp [1, 2, 3, 4] [4, 8, 12, 112] ⟨[(1, .ref 4 1 0), (2, .ref 8 1 0), (3, .ref 12 1 0), (4, sI 0)], [(4, .box 1 [sI (Xpr.Kind e), sI (Xpr.Col e), sB (Val.Null (Xpr.V e)), sI (Val.N (Xpr.V e)), sD11 (Xpr.Kids e)]), (8, .box 1 [sI 0, sI 0, sB false, sI 0, .nilsl]), (12, .box 1 [sI (Xpr.Kind e), sI (Xpr.Col e), sB (Val.Null (Xpr.V e)), sI (Val.N (Xpr.V e)), .arr 112 1]), (112, .arr 1 (.named 1) (([] : List Xpr) : List Xpr))]⟩ ?_
 refine AW.cutQ (α := (List Xpr)) (fun x => ⟨[(2, .ref 8 1 0), (3, .ref 12 1 0)], [(8, .box 1 [sI 0, sI 0, sB false, sI 0, .nilsl]), (12, .box 1 [sI (Xpr.Kind e), sI (Xpr.Col e), sB (Val.Null (Xpr.V e)), sI (Val.N (Xpr.V e)), .arr 112 1]), (112, .arr 1 (.named 1) (x : List Xpr))]⟩) (fun x => (True) ∧ (copyExpr_l0 (copyExpr_r fuel) e ((List.length (Xpr.Kids e)) - 0 + 1) 0 ([] : List Xpr)) = x) ?_ ?_
 ·
  skip
  refine AW.block (AW.loop (α := Nat × (List Xpr)) (fun x => ⟨[(1, .ref 4 1 0), (2, .ref 8 1 0), (3, .ref 12 1 0), (4, sI ((x.1 : Nat) : Int))], [(4, .box 1 [sI (Xpr.Kind e), sI (Xpr.Col e), sB (Val.Null (Xpr.V e)), sI (Val.N (Xpr.V e)), sD11 (Xpr.Kids e)]), (8, .box 1 [sI 0, sI 0, sB false, sI 0, .nilsl]), (12, .box 1 [sI (Xpr.Kind e), sI (Xpr.Col e), sB (Val.Null (Xpr.V e)), sI (Val.N (Xpr.V e)), .arr 112 1]), (112, .arr 1 (.named 1) (x.2 : List Xpr))]⟩) (fun x => (List.length x.2 = x.1 ∧ x.1 ≤ 2) ∧ ∃ k, (List.length (Xpr.Kids e)) - x.1 < k ∧ (copyExpr_l0 (copyExpr_r fuel) e ((List.length (Xpr.Kids e)) - 0 + 1) 0 ([] : List Xpr)) = copyExpr_l0 (copyExpr_r fuel) e k x.1 x.2) (fun x => (List.length (Xpr.Kids e)) - x.1) (0, ([] : List Xpr)) (by kernel_rfl) ⟨?_, _, Nat.lt_succ_self _, rfl⟩ ?_)
  ·
   show List.length ([] : List Xpr) = 0 ∧ 0 ≤ 2
   exact ⟨rfl, by omega⟩
  ·
   intro x hR
   obtain ⟨i, ar112⟩ := x
   obtain ⟨hI0, k19, hk17, e18⟩ := hR
   replace hI0 : List.length ar112 = i ∧ i ≤ 2 := hI0
   replace hk17 : (List.length (Xpr.Kids e)) - i < k19 := hk17
   obtain ⟨k19q, rfl⟩ : ∃ k, k19 = k + 1 := ⟨k19 - 1, by omega⟩
   refine AW.seq (AW.seq (AW.r1 hC [1, 2, 3, 4, 16] [4, 8, 12, 112] ⟨[(1, .ref 4 1 0), (2, .ref 8 1 0), (3, .ref 12 1 0), (4, sI ((i : Nat) : Int)), (16, sB (decide (((i : Nat) : Int) < ((List.length (Xpr.Kids e) : Nat) : Int))))], [(4, .box 1 [sI (Xpr.Kind e), sI (Xpr.Col e), sB (Val.Null (Xpr.V e)), sI (Val.N (Xpr.V e)), sD11 (Xpr.Kids e)]), (8, .box 1 [sI 0, sI 0, sB false, sI 0, .nilsl]), (12, .box 1 [sI (Xpr.Kind e), sI (Xpr.Col e), sB (Val.Null (Xpr.V e)), sI (Val.N (Xpr.V e)), .arr 112 1]), (112, .arr 1 (.named 1) (ar112 : List Xpr))]⟩ ?_))
   refine AW.cd (decide (((i : Nat) : Int) < ((List.length (Xpr.Kids e) : Nat) : Int))) ?_ ?_
   ·
    intro h20
    have h20q := (of_decide_eq_true h20)
    have e21 := e18.trans (Go.Am.bif_t h20)
    refine AW.kp [1, 2, 3, 4] [4, 8, 12, 112] ⟨[(1, .ref 4 1 0), (2, .ref 8 1 0), (3, .ref 12 1 0), (4, sI ((i : Nat) : Int))], [(4, .box 1 [sI (Xpr.Kind e), sI (Xpr.Col e), sB (Val.Null (Xpr.V e)), sI (Val.N (Xpr.V e)), sD11 (Xpr.Kids e)]), (8, .box 1 [sI 0, sI 0, sB false, sI 0, .nilsl]), (12, .box 1 [sI (Xpr.Kind e), sI (Xpr.Col e), sB (Val.Null (Xpr.V e)), sI (Val.N (Xpr.V e)), .arr 112 1]), (112, .arr 1 (.named 1) (ar112 : List Xpr))]⟩ ?_
    refine AW.skip (AW.seq (AW.block (AW.d0 hC hM [1, 2, 3, 4] [4, 8, 12, 112] ⟨[(1, .ref 4 1 0), (2, .ref 8 1 0), (3, .ref 12 1 0), (4, sI ((i : Nat) : Int))], [(4, .box 1 [sI (Xpr.Kind e), sI (Xpr.Col e), sB (Val.Null (Xpr.V e)), sI (Val.N (Xpr.V e)), sD11 (Xpr.Kids e)]), (8, .box 1 [sI 0, sI 0, sB false, sI 0, .nilsl]), (12, .box 1 [sI (Xpr.Kind e), sI (Xpr.Col e), sB (Val.Null (Xpr.V e)), sI (Val.N (Xpr.V e)), .arr 112 1]), (112, .arr 1 (.named 1) ((ar112 ++ ([((copyExpr_r fuel) (List.getD (Xpr.Kids e) i Xpr.zero))] : List Xpr)) : List Xpr))]⟩ [IX ((i : Nat) : Int) ((List.length (Xpr.Kids e) : Nat) : Int), ((∃ w, VL w (List.getD (Xpr.Kids e) i Xpr.zero)) ∧ SizeOf.sizeOf (List.getD (Xpr.Kids e) i Xpr.zero) < fuel), (((List.length ar112 : Nat) : Int) + ((List.length ([((copyExpr_r fuel) (List.getD (Xpr.Kids e) i Xpr.zero))] : List Xpr) : Nat) : Int) ≤ 4294967296)] ?_ ?_)))
    ·
     refine ⟨?_, ?_, ?_, trivial⟩
     ·
      refine IX.of ?_
      omega
     ·
      exact ⟨⟨w0, hvl.kid (by omega)⟩, Nat.lt_of_lt_of_le (kid_lt (by omega)) (Nat.le_of_lt_succ hpre.2)⟩
     ·
      simp only [List.length_cons, List.length_nil, List.length_append]; omega
    refine AW.r0 hC [1, 2, 3, 4] [4, 8, 12, 112] ⟨[(1, .ref 4 1 0), (2, .ref 8 1 0), (3, .ref 12 1 0), (4, sI ((i + 1 : Nat) : Int))], [(4, .box 1 [sI (Xpr.Kind e), sI (Xpr.Col e), sB (Val.Null (Xpr.V e)), sI (Val.N (Xpr.V e)), sD11 (Xpr.Kids e)]), (8, .box 1 [sI 0, sI 0, sB false, sI 0, .nilsl]), (12, .box 1 [sI (Xpr.Kind e), sI (Xpr.Col e), sB (Val.Null (Xpr.V e)), sI (Val.N (Xpr.V e)), .arr 112 1]), (112, .arr 1 (.named 1) ((ar112 ++ ([((copyExpr_r fuel) (List.getD (Xpr.Kids e) i Xpr.zero))] : List Xpr)) : List Xpr))]⟩ [R64 ((i + 1 : Nat) : Int)] ?_ ?_
    ·
     refine ⟨?_, trivial⟩
     ·
      refine R64.of ?_
      omega
    refine AW.back (x := (i, ar112)) (i + 1, (ar112 ++ ([((copyExpr_r fuel) (List.getD (Xpr.Kids e) i Xpr.zero))] : List Xpr))) (by kernel_rfl) ⟨?_, k19q, ?_, e21⟩ ?_
    ·
     show List.length (ar112 ++ ([((copyExpr_r fuel) (List.getD (Xpr.Kids e) i Xpr.zero))] : List Xpr)) = (i + 1) ∧ (i + 1) ≤ 2
     simp only [List.length_append, List.length_cons, List.length_nil]
     omega
    ·
     show (List.length (Xpr.Kids e)) - (i + 1) < k19q
     omega
    ·
     show (List.length (Xpr.Kids e)) - (i + 1) < (List.length (Xpr.Kids e)) - i
     omega
   ·
    intro h22
    have h22q := (of_decide_eq_false h22)
    have e23 := e18.trans (Go.Am.bif_f h22)
    refine AW.kp [2, 3] [8, 12, 112] ⟨[(2, .ref 8 1 0), (3, .ref 12 1 0)], [(8, .box 1 [sI 0, sI 0, sB false, sI 0, .nilsl]), (12, .box 1 [sI (Xpr.Kind e), sI (Xpr.Col e), sB (Val.Null (Xpr.V e)), sI (Val.N (Xpr.V e)), .arr 112 1]), (112, .arr 1 (.named 1) (ar112 : List Xpr))]⟩ ?_
    refine AW.exit ?_
    refine AW.meet ar112 (by kernel_rfl) ⟨?_, e23⟩
    show True
    trivial
 ·
  intro ar112 hR
  obtain ⟨hJ0, e24⟩ := hR
  replace hJ0 : True := hJ0
  have e25 := e0.trans (Go.Am.then_eq e24)
  refine AW.seq (AW.r1 hC [2] [8, 112] ⟨[(2, .ref 8 1 0)], [(8, .box 1 [sI (Xpr.Kind e), sI (Xpr.Col e), sB (Val.Null (Xpr.V e)), sI (Val.N (Xpr.V e)), .arr 112 1]), (112, .arr 1 (.named 1) (ar112 : List Xpr))]⟩ ?_)
  exact AW.ret (AW.retE (β := Xpr) (fun v => [⟨(.named 1), v⟩]) (fun v => []) (v := (Xpr.mk (Xpr.Kind e) (Xpr.Col e) (Xpr.V e) ar112)) e25 (by kernel_rfl) rfl rfl)

theorem copyExpr_fu : AllTV (copyExpr_sp.ps.map PK.ty) (fun tvs => copyExpr_sp.pre tvs → ∃ k, (copyExpr_spn k).pre tvs ∧ (copyExpr_spn k).fn tvs = copyExpr_sp.fn tvs ∧ (copyExpr_spn k).bx tvs = copyExpr_sp.bx tvs) :=
 (fun (e : Xpr) h => ⟨SizeOf.sizeOf e + 1, (show (∃ w, VL w e) ∧ SizeOf.sizeOf e < SizeOf.sizeOf e + 1 from ⟨h, Nat.lt_succ_self _⟩), (show (copyExpr_spn (SizeOf.sizeOf e + 1)).fn [⟨(.named 1), (e : Xpr)⟩] = ([⟨(.named 1), (copyExpr_r (SizeOf.sizeOf e + 1) e)⟩] : List TV) from by kernel_rfl).trans (show ([⟨(.named 1), (copyExpr_r (SizeOf.sizeOf e + 1) e)⟩] : List TV) = copyExpr_sp.fn [⟨(.named 1), (e : Xpr)⟩] from by kernel_rfl), by kernel_rfl⟩)

theorem copyExpr_ok : FnOK Try.prog 39 copyExpr_sp := FnOK.of_fuel copyExpr_okn (fun _ => rfl) (fun _ => rfl) (AllTV.get copyExpr_fu)

def conjuncts_r : Nat → Xpr → (List Xpr)
 | 0, e => []
 | fuel + 1, e => (bif ((Xpr.Kind e) != 8) then ([(copyExpr (Xpr.mk (Xpr.Kind e) (Xpr.Col e) (Xpr.V e) (Xpr.Kids e)))] : List Xpr) else (((conjuncts_r fuel) (List.getD (Xpr.Kids e) 0 Xpr.zero)) ++ ((conjuncts_r fuel) (List.getD (Xpr.Kids e) 1 Xpr.zero))))

def conjuncts (e : Xpr) : (List Xpr) := conjuncts_r (SizeOf.sizeOf e + 1) e

def conjuncts_spn (fuel : Nat) : FnSpec := mkSpec [.val (.named 1)] [.own (.named 1)] (fun (e : Xpr) => (∃ w, VL w e) ∧ SizeOf.sizeOf e < fuel) (fun (e : Xpr) => [⟨(.slice (.named 1)), (conjuncts_r fuel e)⟩])

def conjuncts_sp : FnSpec := mkSpec [.val (.named 1)] [.own (.named 1)] (fun (e : Xpr) => ∃ w, VL w e) (fun (e : Xpr) => [⟨(.slice (.named 1)), (conjuncts e)⟩])

theorem conj_len : ∀ (f l : Nat) (w : Int) (e : Xpr), VE w l e → (conjuncts_r f e).length ≤ 2 ^ l := by
 intro f
 induction f with
 | zero => intro l w e h; exact Nat.zero_le _
 | succ f ih =>
  intro l w e h
  unfold conjuncts_r
  cases hk : (e.Kind != 8) with
  | true => rw [cond_true]; show 1 ≤ _; exact Nat.one_le_two_pow
  | false =>
   have h8 := bne_neg hk
   have h2 := h.two (by omega)
   rw [cond_false]
   cases l with
   | zero => have := h.flat; omega
   | succ l =>
    rw [List.length_append, Nat.pow_succ]
    have a := ih l w _ (h.down (i := 0) (by omega))
    have b := ih l w _ (h.down (i := 1) (by omega))
    omega

theorem conj_b (f : Nat) {w : Int} {e : Xpr} (h : VL w e) : (conjuncts_r f e).length ≤ 256 := by
 obtain ⟨l, hl, h⟩ := h
 have := conj_len f l w e h
 have h2 : 2 ^ l ≤ 2 ^ 8 := Nat.pow_le_pow_right (by decide) hl
 omega

theorem conjuncts_okn (fuel : Nat) : FnOK Try.prog 17 (conjuncts_spn fuel) := by
 induction fuel with
 | zero => exact FnOK.never Try.func17 (by kernel_rfl) rfl (fun _ h => absurd h.2 (Nat.not_lt_zero _))
 | succ fuel ih => ?_
 have hC : CtxOK Try.prog (mkCtx tyL [(17, (conjuncts_spn fuel)), (39, copyExpr_sp)]) := CtxOK.cons ih (CtxOK.cons copyExpr_ok (CtxOK.nil tyOK))
 have hM : Try.prog.follows .mixedOrders = true := Try.checked.mixed
 refine FnOK.of_body Try.func17 (by kernel_rfl) rfl (C := (mkCtx tyL [(17, (conjuncts_spn fuel)), (39, copyExpr_sp)])) hC.ty (by kernel_rfl) ?_
 intro (e : Xpr) hwf hpre E
 have hpre : (∃ w, VL w e) ∧ SizeOf.sizeOf e < fuel + 1 := hpre
 have hw_e : Wf ⟨(.named 1), (e : Xpr)⟩ := hwf _ (List.Mem.head _)
 obtain ⟨hr_e_Kind, hr_e_Col, hl_e_Kids⟩ := Xpr.wfl hw_e
 obtain ⟨w0, hvl⟩ := hpre.1
 have hk2 := hvl.kids2
 have htw := hvl.two
 have hEta := Xpr.eta e
 have e0 : conjuncts_r (fuel + 1) e = conjuncts_r (fuel + 1) e := rfl
 refine AW.seq (AW.r1 hC [1] [4] ⟨[(1, .ref 4 1 0)], [(4, .box 1 [sI (Xpr.Kind e), sI (Xpr.Col e), sB (Val.Null (Xpr.V e)), sI (Val.N (Xpr.V e)), sD11 (Xpr.Kids e)])]⟩ ?_)
 refine AW.seq (AW.seq (AW.r1 hC [1, 5] [4] ⟨[(1, .ref 4 1 0), (5, sB ((Xpr.Kind e) != 8))], [(4, .box 1 [sI (Xpr.Kind e), sI (Xpr.Col e), sB (Val.Null (Xpr.V e)), sI (Val.N (Xpr.V e)), sD11 (Xpr.Kids e)])]⟩ ?_))
 refine AW.cd ((Xpr.Kind e) != 8) ?_ ?_
 ·
  intro h1
  have h1q := (Go.Am.bne_pos h1)
  have e2 := e0.trans (Go.Am.bif_t h1)
  refine AW.seq (AW.r0 hC [2] [32] ⟨[(2, .arr 32 1)], [(32, .arr 1 (.named 1) (([(copyExpr (Xpr.mk (Xpr.Kind e) (Xpr.Col e) (Xpr.V e) (Xpr.Kids e)))] : List Xpr) : List Xpr))]⟩ [(∃ w, VL w (Xpr.mk (Xpr.Kind e) (Xpr.Col e) (Xpr.V e) (Xpr.Kids e)))] ?_ ?_)
  ·
   refine ⟨?_, trivial⟩
   ·
    rw [hEta]; exact ⟨w0, hvl⟩
  exact AW.ret (AW.retE (β := (List Xpr)) (fun v => [⟨(.slice (.named 1)), v⟩]) (fun v => []) (v := ([(copyExpr (Xpr.mk (Xpr.Kind e) (Xpr.Col e) (Xpr.V e) (Xpr.Kids e)))] : List Xpr)) e2 (by kernel_rfl) rfl rfl)
 ·
  intro h3
  have h3q := (Go.Am.bne_neg h3)
  have e4 := e0.trans (Go.Am.bif_f h3)
  refine AW.kp [1] [4] ⟨[(1, .ref 4 1 0)], [(4, .box 1 [sI (Xpr.Kind e), sI (Xpr.Col e), sB (Val.Null (Xpr.V e)), sI (Val.N (Xpr.V e)), sD11 (Xpr.Kids e)])]⟩ ?_
  refine AW.skip (AW.seq (AW.d0 hC hM [2] [52] ⟨[(2, .arr 52 1)], [(52, .arr 1 (.named 1) ((((conjuncts_r fuel) (List.getD (Xpr.Kids e) 0 Xpr.zero)) ++ ((conjuncts_r fuel) (List.getD (Xpr.Kids e) 1 Xpr.zero))) : List Xpr))]⟩ [IX (0 : Int) ((List.length (Xpr.Kids e) : Nat) : Int), ((∃ w, VL w (List.getD (Xpr.Kids e) 0 Xpr.zero)) ∧ SizeOf.sizeOf (List.getD (Xpr.Kids e) 0 Xpr.zero) < fuel), IX (1 : Int) ((List.length (Xpr.Kids e) : Nat) : Int), ((∃ w, VL w (List.getD (Xpr.Kids e) 1 Xpr.zero)) ∧ SizeOf.sizeOf (List.getD (Xpr.Kids e) 1 Xpr.zero) < fuel), (((List.length ((conjuncts_r fuel) (List.getD (Xpr.Kids e) 0 Xpr.zero)) : Nat) : Int) + ((List.length ((conjuncts_r fuel) (List.getD (Xpr.Kids e) 1 Xpr.zero)) : Nat) : Int) ≤ 4294967296)] ?_ ?_))
  ·
   refine ⟨?_, ?_, ?_, ?_, ?_, trivial⟩
   ·
    refine IX.of ?_
    omega
   ·
    have h2 := htw (by omega)
    exact ⟨⟨w0, hvl.kid (by omega)⟩, Nat.lt_of_lt_of_le (kid_lt (by omega)) (Nat.le_of_lt_succ hpre.2)⟩
   ·
    refine IX.of ?_
    omega
   ·
    have h2 := htw (by omega)
    exact ⟨⟨w0, hvl.kid (by omega)⟩, Nat.lt_of_lt_of_le (kid_lt (by omega)) (Nat.le_of_lt_succ hpre.2)⟩
   ·
    have h2 := htw (by omega); first | omega | (have a := conj_b fuel (hvl.kid (i := 0) (by omega)); have b := conj_b fuel (hvl.kid (i := 1) (by omega)); omega)
  exact AW.ret (AW.retE (β := (List Xpr)) (fun v => [⟨(.slice (.named 1)), v⟩]) (fun v => []) (v := (((conjuncts_r fuel) (List.getD (Xpr.Kids e) 0 Xpr.zero)) ++ ((conjuncts_r fuel) (List.getD (Xpr.Kids e) 1 Xpr.zero)))) e4 (by kernel_rfl) rfl rfl)

theorem conjuncts_fu : AllTV (conjuncts_sp.ps.map PK.ty) (fun tvs => conjuncts_sp.pre tvs → ∃ k, (conjuncts_spn k).pre tvs ∧ (conjuncts_spn k).fn tvs = conjuncts_sp.fn tvs ∧ (conjuncts_spn k).bx tvs = conjuncts_sp.bx tvs) :=
 (fun (e : Xpr) h => ⟨SizeOf.sizeOf e + 1, (show (∃ w, VL w e) ∧ SizeOf.sizeOf e < SizeOf.sizeOf e + 1 from ⟨h, Nat.lt_succ_self _⟩), (show (conjuncts_spn (SizeOf.sizeOf e + 1)).fn [⟨(.named 1), (e : Xpr)⟩] = ([⟨(.slice (.named 1)), (conjuncts_r (SizeOf.sizeOf e + 1) e)⟩] : List TV) from by kernel_rfl).trans (show ([⟨(.slice (.named 1)), (conjuncts_r (SizeOf.sizeOf e + 1) e)⟩] : List TV) = conjuncts_sp.fn [⟨(.named 1), (e : Xpr)⟩] from by kernel_rfl), by kernel_rfl⟩)

theorem conjuncts_ok : FnOK Try.prog 17 conjuncts_sp := FnOK.of_fuel conjuncts_okn (fun _ => rfl) (fun _ => rfl) (AllTV.get conjuncts_fu)

end
end Go.Proofs.Ytbgbekpbbcahpaa
