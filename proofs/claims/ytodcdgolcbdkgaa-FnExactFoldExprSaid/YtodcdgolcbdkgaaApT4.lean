/-
  A part of the proof of this claim (ApT4): what functions of the program compute, and plain facts of that. No conditions.
-/
import Derived.Test.YtodcdgolcbdkgaaApT3
set_option linter.all false
namespace Go.Proofs.Ytodcdgolcbdkgaa
open Go Go.Am
noncomputable section

def foldStep (k : Int) (ks : List Xpr) : Xpr := bif ks.all (fun x => x.Kind == 2) then constant (evalExpr (Xpr.mk k 0 (Val.mk false 0) ks) []) else (bif (bif k == 8 then ks.any (fun x => isConstant x 0) else false) then constant (Val.mk false 0) else (bif (bif k == 9 then ks.any (fun x => isConstant x 1) else false) then constant (Val.mk false 1) else Xpr.mk k 0 (Val.mk false 0) ks))

theorem VE.const {w w' : Int} {l : Nat} {x : Xpr} (h : VE w l x) (hk : x.Kind = 2) : VE w' l x := by
 obtain ⟨n1, n2, n3, n4, n5⟩ := Node_iff.1 h.node
 have hz : x.Kids.length = 0 := by
  rw [hk] at n1
  have := kids_cases 2
  omega
 exact VE_iff.2 ⟨⟨Node_iff.2 ⟨n1, fun e => by omega, n3, n4, n5⟩, fun e => by omega⟩, fun i hi => by omega⟩

theorem VE.leaf {w : Int} {l : Nat} {v : Val} (hv : VV v) : VE w l (constant v) :=
 VE_iff.2 ⟨⟨Node_iff.2 ⟨rfl, fun e => absurd (show (2 : Int) = 1 from e) (by decide), fun _ => rfl, fun _ => hv, fun e => absurd rfl e⟩, fun e => absurd e (Nat.lt_irrefl 0)⟩, fun i hi => absurd hi (Nat.not_lt_zero i)⟩

theorem VE.up {w : Int} {l k : Int} {n : Nat} {ks : List Xpr} (hk : ((ks.length : Nat) : Int) = kidsOfKind k) (h0 : ks.length ≠ 0) (hks : ∀ i, i < ks.length → VE w n (ks.getD i Xpr.zero)) : VE w (n + 1) (Xpr.mk k 0 (Val.mk false 0) ks) := by
 have hc := kids_cases k
 exact VE_iff.2 ⟨⟨Node_iff.2 ⟨hk, fun e => by have e : k = 1 := e; omega, fun _ => rfl, fun e => by have e : k = 2 := e; omega, fun _ => rfl⟩, fun _ => by omega⟩, hks⟩

theorem out_vxr {w k : Int} {n : Nat} {ks : List Xpr} (hk : ((ks.length : Nat) : Int) = kidsOfKind k) (h0 : ks.length ≠ 0) (hks : ∀ i, i < ks.length → VE w n (ks.getD i Xpr.zero)) (ha : ks.all (fun x => x.Kind == 2) = true) : VXr [] (Xpr.mk k 0 (Val.mk false 0) ks) := by
 refine ⟨fun j hj => absurd hj (Nat.not_lt_zero _), n + 1, VE.up (l := 0) hk h0 fun i hi => (hks i hi).const ?_⟩
 have := List.all_eq_true.1 ha _ (getD_mem ks i Xpr.zero hi)
 exact eq_of_beq this

theorem step_ve {w k : Int} {n : Nat} {ks : List Xpr} (hk : ((ks.length : Nat) : Int) = kidsOfKind k) (h0 : ks.length ≠ 0) (hks : ∀ i, i < ks.length → VE w n (ks.getD i Xpr.zero)) : VE w (n + 1) (foldStep k ks) := by
 unfold foldStep
 cases ha : ks.all (fun x => x.Kind == 2) with
 | true =>
  rw [cond_true]
  exact VE.leaf (eval_vv _ _ _ (out_vxr hk h0 hks ha))
 | false =>
  rw [cond_false]
  cases (bif k == 8 then ks.any (fun x => isConstant x 0) else false) with
  | true => exact VE.leaf (by unfold VV; simp)
  | false =>
   rw [cond_false]
   cases (bif k == 9 then ks.any (fun x => isConstant x 1) else false) with
   | true => exact VE.leaf (by unfold VV; simp)
   | false => exact VE.up (l := 0) hk h0 hks

def foldP : Nat → Xpr → Xpr
 | 0, _ => Xpr.zero
 | f + 1, e => bif (e.Kids.length == 0) then e else foldStep e.Kind (e.Kids.map (foldP f))

theorem map_ve {w : Int} {n : Nat} {self : Xpr → Xpr} {l : List Xpr} (h : ∀ i, i < l.length → VE w n (self (l.getD i Xpr.zero))) : ∀ i, i < (l.map self).length → VE w n ((l.map self).getD i Xpr.zero) := by
 intro i hi
 rw [List.length_map] at hi
 have := h i hi
 rw [List.getD_eq_getElem?_getD, List.getElem?_eq_getElem hi] at this
 rw [List.getD_eq_getElem?_getD, List.getElem?_map, List.getElem?_eq_getElem hi]
 exact this

theorem foldP_ve : ∀ (f : Nat) {w : Int} {l : Nat} {e : Xpr}, VE w l e → SizeOf.sizeOf e < f → VE w l (foldP f e) := by
 intro f
 induction f with
 | zero => intro w l e _ h; exact absurd h (Nat.not_lt_zero _)
 | succ f ih =>
  intro w l e h hs
  unfold foldP
  cases h0 : (e.Kids.length == 0) with
  | true => exact h
  | false =>
   rw [cond_false]
   have h0 := ne_of_beq_false h0
   cases l with
   | zero => exact absurd h.2 h0
   | succ l =>
    refine step_ve (by rw [List.length_map]; exact (Node_iff.1 h.node).1) (by rw [List.length_map]; exact h0) (map_ve fun i hi => ih (h.2 i hi) ?_)
    have := kid_lt hi
    omega

theorem take_map {self : Xpr → Xpr} {kids : List Xpr} {i : Nat} (hi : i < kids.length) : (kids.take (i + 1)).map self = (kids.take i).map self ++ [self (kids.getD i Xpr.zero)] := by
 rw [List.take_add_one, List.map_append, List.getD_eq_getElem?_getD, List.getElem?_eq_getElem hi]
 rfl

theorem inv_fold {self : Xpr → Xpr} {kids ar : List Xpr} {all : Bool} {i : Nat} (h : (ar = (kids.take i).map self ∧ all = ar.all (fun x => x.Kind == 2)) ∧ i ≤ kids.length ∧ ar.length = i) (hi : i < kids.length) :
  (ar ++ [Xpr.mk (Xpr.Kind (self (kids.getD i Xpr.zero))) (Xpr.Col (self (kids.getD i Xpr.zero))) (Xpr.V (self (kids.getD i Xpr.zero))) (Xpr.Kids (self (kids.getD i Xpr.zero)))] = (kids.take (i + 1)).map self ∧ (bif all then ((Xpr.Kind (self (kids.getD i Xpr.zero))) == 2) else false) = (ar ++ [Xpr.mk (Xpr.Kind (self (kids.getD i Xpr.zero))) (Xpr.Col (self (kids.getD i Xpr.zero))) (Xpr.V (self (kids.getD i Xpr.zero))) (Xpr.Kids (self (kids.getD i Xpr.zero)))]).all (fun x => x.Kind == 2)) ∧ i + 1 ≤ kids.length ∧ (ar ++ [Xpr.mk (Xpr.Kind (self (kids.getD i Xpr.zero))) (Xpr.Col (self (kids.getD i Xpr.zero))) (Xpr.V (self (kids.getD i Xpr.zero))) (Xpr.Kids (self (kids.getD i Xpr.zero)))]).length = i + 1 := by
 rw [Xpr.eta]
 refine ⟨⟨by rw [take_map hi, h.1.1], ?_⟩, hi, by rw [List.length_append, h.2.2]; rfl⟩
 rw [h.1.2, List.all_append]
 cases ar.all (fun x => x.Kind == 2) <;> simp

theorem bne_false {k : Int} (h : ¬ k = 8) : (k == 8) = false := beq_eq_false_iff_ne.2 h

def fold_l0 (self : Xpr → Xpr) (e : Xpr) : Nat → Bool → Nat → (List Xpr) → Bool × (List Xpr)
 | 0, all, i, ar160 => (all, ar160)
 | k + 1, all, i, ar160 => (bif (decide (((i : Nat) : Int) < ((List.length (Xpr.Kids e) : Nat) : Int))) then (fold_l0 self e k (bif all then ((Xpr.Kind (self (List.getD (Xpr.Kids e) i Xpr.zero))) == 2) else false) (i + 1) (ar160 ++ ([(Xpr.mk (Xpr.Kind (self (List.getD (Xpr.Kids e) i Xpr.zero))) (Xpr.Col (self (List.getD (Xpr.Kids e) i Xpr.zero))) (Xpr.V (self (List.getD (Xpr.Kids e) i Xpr.zero))) (Xpr.Kids (self (List.getD (Xpr.Kids e) i Xpr.zero))))] : List Xpr))) else (all, ar160))

def fold_l1 (e : Xpr) (ar160 : List Xpr) : Nat → Nat → Unit ⊕ Xpr
 | 0, i => .inl ()
 | k + 1, i => (bif (decide (((i : Nat) : Int) < ((List.length ar160 : Nat) : Int))) then (bif (bif ((Xpr.Kind e) == 8) then (isConstant (List.getD ar160 i Xpr.zero) 0) else false) then (.inr (Xpr.mk (Xpr.Kind (constant (Val.mk false 0))) (Xpr.Col (constant (Val.mk false 0))) (Xpr.V (constant (Val.mk false 0))) (Xpr.Kids (constant (Val.mk false 0))))) else (bif (bif ((Xpr.Kind e) == 9) then (isConstant (List.getD ar160 i Xpr.zero) 1) else false) then (.inr (Xpr.mk (Xpr.Kind (constant (Val.mk false 1))) (Xpr.Col (constant (Val.mk false 1))) (Xpr.V (constant (Val.mk false 1))) (Xpr.Kids (constant (Val.mk false 1))))) else (fold_l1 e ar160 k (i + 1)))) else (.inl ()))

def fold_r : Nat → Xpr → Xpr
 | 0, e => Xpr.zero
 | fuel + 1, e => (bif (((List.length (Xpr.Kids e) : Nat) : Int) == 0) then (Xpr.mk (Xpr.Kind (copyExpr (Xpr.mk (Xpr.Kind e) (Xpr.Col e) (Xpr.V e) (Xpr.Kids e)))) (Xpr.Col (copyExpr (Xpr.mk (Xpr.Kind e) (Xpr.Col e) (Xpr.V e) (Xpr.Kids e)))) (Xpr.V (copyExpr (Xpr.mk (Xpr.Kind e) (Xpr.Col e) (Xpr.V e) (Xpr.Kids e)))) (Xpr.Kids (copyExpr (Xpr.mk (Xpr.Kind e) (Xpr.Col e) (Xpr.V e) (Xpr.Kids e))))) else (Go.Am.andThen (fold_l0 (fold_r fuel) e ((List.length (Xpr.Kids e)) - 0 + 1) true 0 ([] : List Xpr)) (fun z => (fun (all : Bool) (ar160 : List Xpr) => (bif all then (Xpr.mk (Xpr.Kind (constant (evalExpr (Xpr.mk (Xpr.Kind e) 0 (Val.mk false 0) ar160) ([] : List Val)))) (Xpr.Col (constant (evalExpr (Xpr.mk (Xpr.Kind e) 0 (Val.mk false 0) ar160) ([] : List Val)))) (Xpr.V (constant (evalExpr (Xpr.mk (Xpr.Kind e) 0 (Val.mk false 0) ar160) ([] : List Val)))) (Xpr.Kids (constant (evalExpr (Xpr.mk (Xpr.Kind e) 0 (Val.mk false 0) ar160) ([] : List Val))))) else (Sum.elim (fun _ => (Xpr.mk (Xpr.Kind e) 0 (Val.mk false 0) ar160)) (fun r => r) (fold_l1 e ar160 ((List.length ar160) - 0 + 1) 0)))) z.1 z.2)))

def fold (e : Xpr) : Xpr := fold_r (SizeOf.sizeOf e + 1) e

def fold_spn (fuel : Nat) : FnSpec := mkSpec [.val (.named 1)] [.val (.named 1)] (fun (e : Xpr) => (∃ w, VL w e) ∧ SizeOf.sizeOf e < fuel) (fun (e : Xpr) => [⟨(.named 1), (fold_r fuel e)⟩])

def fold_sp : FnSpec := mkSpec [.val (.named 1)] [.val (.named 1)] (fun (e : Xpr) => ∃ w, VL w e) (fun (e : Xpr) => [⟨(.named 1), (fold e)⟩])

theorem fold_l0_eq (self : Xpr → Xpr) (e : Xpr) : ∀ (k : Nat) (all : Bool) (i : Nat) (ar : List Xpr), e.Kids.length - i < k → fold_l0 self e k all i ar = (all && ((e.Kids.drop i).map self).all (fun x => x.Kind == 2), ar ++ (e.Kids.drop i).map self) := by
 intro k
 induction k with
 | zero => intro all i ar h; omega
 | succ k ih =>
  intro all i ar h
  unfold fold_l0
  by_cases hlt : i < e.Kids.length
  ·
   rw [decide_eq_true (by omega : ((i : Nat) : Int) < ((List.length (Xpr.Kids e) : Nat) : Int)), cond_true, ih _ _ _ (by omega), List.drop_eq_getElem_cons hlt, Xpr.eta, List.getD_eq_getElem?_getD, List.getElem?_eq_getElem hlt]
   simp only [Option.getD_some, List.map_cons, List.all_cons, List.append_assoc, List.cons_append, List.nil_append]
   cases all <;> simp
  ·
   rw [decide_eq_false (by omega), cond_false, List.drop_of_length_le (by omega)]
   simp

theorem fold_l1_eq (e : Xpr) (ar : List Xpr) (d : Xpr) : ∀ (k i : Nat), ar.length - i < k → Sum.elim (fun _ => d) (fun r => r) (fold_l1 e ar k i) =
  bif (bif e.Kind == 8 then (ar.drop i).any (fun x => isConstant x 0) else false) then constant (Val.mk false 0) else (bif (bif e.Kind == 9 then (ar.drop i).any (fun x => isConstant x 1) else false) then constant (Val.mk false 1) else d) := by
 intro k
 induction k with
 | zero => intro i h; omega
 | succ k ih =>
  intro i h
  unfold fold_l1
  by_cases hlt : i < ar.length
  ·
   rw [decide_eq_true (by omega : ((i : Nat) : Int) < ((List.length ar : Nat) : Int)), cond_true, List.drop_eq_getElem_cons hlt, Xpr.eta, Xpr.eta, List.getD_eq_getElem?_getD, List.getElem?_eq_getElem hlt]
   simp only [Option.getD_some, List.any_cons]
   by_cases h8 : e.Kind = 8
   ·
    rw [h8]
    cases hc : isConstant ar[i] 0 with
    | true => rfl
    | false =>
     have := ih (i + 1) (by omega)
     rw [h8] at this
     simpa using this
   ·
    rw [bne_false h8]
    by_cases h9 : e.Kind = 9
    ·
     rw [h9]
     cases hc : isConstant ar[i] 1 with
     | true => rfl
     | false =>
      have := ih (i + 1) (by omega)
      rw [h9] at this
      simpa using this
    ·
     rw [show (e.Kind == 9) = false from beq_eq_false_iff_ne.2 h9]
     have := ih (i + 1) (by omega)
     rw [bne_false h8, show (e.Kind == 9) = false from beq_eq_false_iff_ne.2 h9] at this
     simpa using this
  ·
   rw [decide_eq_false (by omega), cond_false, List.drop_of_length_le (by omega)]
   cases (e.Kind == 8) <;> cases (e.Kind == 9) <;> rfl

theorem fold_eq : ∀ (f : Nat) (e : Xpr), fold_r f e = foldP f e := by
 intro f
 induction f with
 | zero => intro e; rfl
 | succ f ih =>
  intro e
  unfold fold_r foldP Go.Am.andThen
  rw [copyExpr_eq, Xpr.eta, Xpr.eta, fold_l0_eq _ _ _ _ _ _ (by omega), List.drop_zero, List.nil_append, Bool.true_and]
  have hm : e.Kids.map (fold_r f) = e.Kids.map (foldP f) := List.map_congr_left fun x _ => ih x
  rw [hm]
  by_cases h0 : e.Kids.length = 0
  ·
   rw [h0]
   rfl
  ·
   rw [show (((List.length (Xpr.Kids e) : Nat) : Int) == 0) = false from beq_eq_false_iff_ne.2 (by omega), show (e.Kids.length == 0) = false from beq_eq_false_iff_ne.2 h0, cond_false, cond_false]
   simp only
   rw [fold_l1_eq _ _ _ _ _ (by omega), List.drop_zero, Xpr.eta]
   rfl

theorem fold_out {e : Xpr} {w0 : Int} {fuel : Nat} {ks : List Xpr} (hvl : VL w0 e) (h0 : ¬ e.Kids.length = 0) (hs : SizeOf.sizeOf e < fuel + 1) (h : ks = e.Kids.map (fold_r fuel)) : ∃ n, ((ks.length : Nat) : Int) = kidsOfKind e.Kind ∧ ks.length ≠ 0 ∧ ∀ i, i < ks.length → VE w0 n (ks.getD i Xpr.zero) := by
 obtain ⟨l, hl, hv⟩ := hvl
 subst h
 cases l with
 | zero => exact absurd hv.2 h0
 | succ l =>
  refine ⟨l, by rw [List.length_map]; exact (Node_iff.1 hv.node).1, by rw [List.length_map]; exact h0, map_ve fun i hi => ?_⟩
  rw [fold_eq]
  have := kid_lt hi
  exact foldP_ve _ (hv.2 i hi) (by omega)

theorem fold_okn (fuel : Nat) : FnOK Try.prog 97 (fold_spn fuel) := by
 induction fuel with
 | zero => exact FnOK.never Try.func97 (by kernel_rfl) rfl (fun _ h => absurd h.2 (Nat.not_lt_zero _))
 | succ fuel ih => ?_
 have hC : CtxOK Try.prog (mkCtx tyL [(97, (fold_spn fuel)), (127, copyExpr_sp), (128, constant_sp), (129, evalExpr_sp), (130, isConstant_sp)]) := CtxOK.cons ih (CtxOK.cons copyExpr_ok (CtxOK.cons constant_ok (CtxOK.cons evalExpr_ok (CtxOK.cons isConstant_ok (CtxOK.nil tyOK)))))
 refine FnOK.of_body Try.func97 (by kernel_rfl) rfl (C := (mkCtx tyL [(97, (fold_spn fuel)), (127, copyExpr_sp), (128, constant_sp), (129, evalExpr_sp), (130, isConstant_sp)])) hC.ty (by kernel_rfl) ?_
 intro (e : Xpr) hwf hpre E
 have hpre : (∃ w, VL w e) ∧ SizeOf.sizeOf e < fuel + 1 := hpre
 have hw_e : Wf ⟨(.named 1), (e : Xpr)⟩ := hwf _ (List.Mem.head _)
 obtain ⟨hr_e_Kind, hr_e_Col, hl_e_Kids⟩ := Xpr.wfl hw_e
 obtain ⟨w0, hvl⟩ := hpre.1
 have hk2 := hvl.kids2
 have hsz := hpre.2
 have e0 : fold_r (fuel + 1) e = fold_r (fuel + 1) e := rfl
 refine AW.seq (AW.r1 hC [1, 2] [4, 8] ⟨[(1, .ref 4 1 0), (2, .ref 8 1 0)], [(4, .box 1 [sI (Xpr.Kind e), sI (Xpr.Col e), sB (Val.Null (Xpr.V e)), sI (Val.N (Xpr.V e)), sD9 (Xpr.Kids e)]), (8, .box 1 [sI 0, sI 0, sB false, sI 0, .nilsl])]⟩ ?_)
 refine AW.seq (AW.seq (AW.r1 hC [1, 2, 11] [4, 8] ⟨[(1, .ref 4 1 0), (2, .ref 8 1 0), (11, sB (((List.length (Xpr.Kids e) : Nat) : Int) == 0))], [(4, .box 1 [sI (Xpr.Kind e), sI (Xpr.Col e), sB (Val.Null (Xpr.V e)), sI (Val.N (Xpr.V e)), sD9 (Xpr.Kids e)]), (8, .box 1 [sI 0, sI 0, sB false, sI 0, .nilsl])]⟩ ?_))
 refine AW.cd (((List.length (Xpr.Kids e) : Nat) : Int) == 0) ?_ ?_
 ·
  intro h1
  have h1q := (Go.Am.beq_pos h1)
  have e2 := e0.trans (Go.Am.bif_t h1)
  refine AW.seq (AW.r0 hC [2] [8] ⟨[(2, .ref 8 1 0)], [(8, .box 1 [sI (Xpr.Kind (copyExpr (Xpr.mk (Xpr.Kind e) (Xpr.Col e) (Xpr.V e) (Xpr.Kids e)))), sI (Xpr.Col (copyExpr (Xpr.mk (Xpr.Kind e) (Xpr.Col e) (Xpr.V e) (Xpr.Kids e)))), sB (Val.Null (Xpr.V (copyExpr (Xpr.mk (Xpr.Kind e) (Xpr.Col e) (Xpr.V e) (Xpr.Kids e))))), sI (Val.N (Xpr.V (copyExpr (Xpr.mk (Xpr.Kind e) (Xpr.Col e) (Xpr.V e) (Xpr.Kids e))))), sD9 (Xpr.Kids (copyExpr (Xpr.mk (Xpr.Kind e) (Xpr.Col e) (Xpr.V e) (Xpr.Kids e))))])]⟩ [(∃ w, VL w (Xpr.mk (Xpr.Kind e) (Xpr.Col e) (Xpr.V e) (Xpr.Kids e)))] ?_ ?_)
  ·
   refine ⟨?_, trivial⟩
   ·
    rw [Xpr.eta]
    exact ⟨w0, hvl⟩
  exact AW.ret (AW.retE (β := Xpr) (fun v => [⟨(.named 1), v⟩]) (fun v => []) (v := (Xpr.mk (Xpr.Kind (copyExpr (Xpr.mk (Xpr.Kind e) (Xpr.Col e) (Xpr.V e) (Xpr.Kids e)))) (Xpr.Col (copyExpr (Xpr.mk (Xpr.Kind e) (Xpr.Col e) (Xpr.V e) (Xpr.Kids e)))) (Xpr.V (copyExpr (Xpr.mk (Xpr.Kind e) (Xpr.Col e) (Xpr.V e) (Xpr.Kids e)))) (Xpr.Kids (copyExpr (Xpr.mk (Xpr.Kind e) (Xpr.Col e) (Xpr.V e) (Xpr.Kids e)))))) e2 (by kernel_rfl) rfl rfl)
 ·
  intro h3
  have h3q := (Go.Am.beq_neg h3)
  have e4 := e0.trans (Go.Am.bif_f h3)
  refine AW.kp [1, 2] [4, 8] ⟨[(1, .ref 4 1 0), (2, .ref 8 1 0)], [(4, .box 1 [sI (Xpr.Kind e), sI (Xpr.Col e), sB (Val.Null (Xpr.V e)), sI (Val.N (Xpr.V e)), sD9 (Xpr.Kids e)]), (8, .box 1 [sI 0, sI 0, sB false, sI 0, .nilsl])]⟩ ?_
  refine AW.skip (AW.seq (AW.r1 hC [1, 2, 3] [4, 8, 12] ⟨[(1, .ref 4 1 0), (2, .ref 8 1 0), (3, .ref 12 1 0)], [(4, .box 1 [sI (Xpr.Kind e), sI (Xpr.Col e), sB (Val.Null (Xpr.V e)), sI (Val.N (Xpr.V e)), sD9 (Xpr.Kids e)]), (8, .box 1 [sI 0, sI 0, sB false, sI 0, .nilsl]), (12, .box 1 [sI (Xpr.Kind e), sI 0, sB false, sI 0, .nilsl])]⟩ ?_))
  refine AW.seq (AW.r1 hC [1, 2, 3, 4] [4, 8, 12] ⟨[(1, .ref 4 1 0), (2, .ref 8 1 0), (3, .ref 12 1 0), (4, sB true)], [(4, .box 1 [sI (Xpr.Kind e), sI (Xpr.Col e), sB (Val.Null (Xpr.V e)), sI (Val.N (Xpr.V e)), sD9 (Xpr.Kids e)]), (8, .box 1 [sI 0, sI 0, sB false, sI 0, .nilsl]), (12, .box 1 [sI (Xpr.Kind e), sI 0, sB false, sI 0, .nilsl])]⟩ ?_)
  refine AW.seq (AW.seq (AW.r1 hC [1, 2, 3, 4, 5] [4, 8, 12] ⟨[(1, .ref 4 1 0), (2, .ref 8 1 0), (3, .ref 12 1 0), (4, sB true), (5, sI 0)], [(4, .box 1 [sI (Xpr.Kind e), sI (Xpr.Col e), sB (Val.Null (Xpr.V e)), sI (Val.N (Xpr.V e)), sD9 (Xpr.Kids e)]), (8, .box 1 [sI 0, sI 0, sB false, sI 0, .nilsl]), (12, .box 1 [sI (Xpr.Kind e), sI 0, sB false, sI 0, .nilsl])]⟩ ?_))
  refine AW.adoptB 12 1 4 160 [sI (Xpr.Kind e), sI 0, sB false, sI 0, .nilsl] (.named 1) (by kernel_rfl) (by kernel_rfl) (by kernel_rfl) ?_
  refine AW.kp [1, 2, 3, 4, 5] [4, 8, 12, 160] ⟨[(1, .ref 4 1 0), (2, .ref 8 1 0), (3, .ref 12 1 0), (4, sB true), (5, sI 0)], [(4, .box 1 [sI (Xpr.Kind e), sI (Xpr.Col e), sB (Val.Null (Xpr.V e)), sI (Val.N (Xpr.V e)), sD9 (Xpr.Kids e)]), (8, .box 1 [sI 0, sI 0, sB false, sI 0, .nilsl]), (12, .box 1 [sI (Xpr.Kind e), sI 0, sB false, sI 0, .arr 160 1]), (160, .arr 1 (.named 1) (([] : List Xpr) : List Xpr))]⟩ ?_
  refine AW.cutQ (α := Bool × (List Xpr)) (fun x => ⟨[(2, .ref 8 1 0), (3, .ref 12 1 0), (4, sB x.1)], [(8, .box 1 [sI 0, sI 0, sB false, sI 0, .nilsl]), (12, .box 1 [sI (Xpr.Kind e), sI 0, sB false, sI 0, .arr 160 1]), (160, .arr 1 (.named 1) (x.2 : List Xpr))]⟩) (fun x => ((x.2 = List.map (fold_r fuel) (Xpr.Kids e) ∧ x.1 = List.all x.2 (fun x => x.Kind == 2)) ∧ List.length x.2 ≤ 2) ∧ (fold_l0 (fold_r fuel) e ((List.length (Xpr.Kids e)) - 0 + 1) true 0 ([] : List Xpr)) = x) ?_ ?_
  ·
   skip
   refine AW.block (AW.loop (α := Bool × Nat × (List Xpr)) (fun x => ⟨[(1, .ref 4 1 0), (2, .ref 8 1 0), (3, .ref 12 1 0), (4, sB x.1), (5, sI ((x.2.1 : Nat) : Int))], [(4, .box 1 [sI (Xpr.Kind e), sI (Xpr.Col e), sB (Val.Null (Xpr.V e)), sI (Val.N (Xpr.V e)), sD9 (Xpr.Kids e)]), (8, .box 1 [sI 0, sI 0, sB false, sI 0, .nilsl]), (12, .box 1 [sI (Xpr.Kind e), sI 0, sB false, sI 0, .arr 160 1]), (160, .arr 1 (.named 1) (x.2.2 : List Xpr))]⟩) (fun x => ((x.2.2 = List.map (fold_r fuel) (List.take x.2.1 (Xpr.Kids e)) ∧ x.1 = List.all x.2.2 (fun x => x.Kind == 2)) ∧ x.2.1 ≤ List.length (Xpr.Kids e) ∧ List.length x.2.2 = x.2.1) ∧ ∃ k, (List.length (Xpr.Kids e)) - x.2.1 < k ∧ (fold_l0 (fold_r fuel) e ((List.length (Xpr.Kids e)) - 0 + 1) true 0 ([] : List Xpr)) = fold_l0 (fold_r fuel) e k x.1 x.2.1 x.2.2) (fun x => (List.length (Xpr.Kids e)) - x.2.1) (true, 0, ([] : List Xpr)) (by kernel_rfl) ⟨?_, _, Nat.lt_succ_self _, rfl⟩ ?_)
   ·
    show (([] : List Xpr) = List.map (fold_r fuel) (List.take 0 (Xpr.Kids e)) ∧ true = List.all ([] : List Xpr) (fun x => x.Kind == 2)) ∧ 0 ≤ List.length (Xpr.Kids e) ∧ List.length ([] : List Xpr) = 0
    exact ⟨⟨rfl, rfl⟩, Nat.zero_le _, rfl⟩
   ·
    intro x hR
    obtain ⟨all, i, ar160⟩ := x
    obtain ⟨hI0, k23, hk21, e22⟩ := hR
    replace hI0 : (ar160 = List.map (fold_r fuel) (List.take i (Xpr.Kids e)) ∧ all = List.all ar160 (fun x => x.Kind == 2)) ∧ i ≤ List.length (Xpr.Kids e) ∧ List.length ar160 = i := hI0
    replace hk21 : (List.length (Xpr.Kids e)) - i < k23 := hk21
    obtain ⟨k23q, rfl⟩ : ∃ k, k23 = k + 1 := ⟨k23 - 1, by omega⟩
    refine AW.seq (AW.seq (AW.r1 hC [1, 2, 3, 4, 5, 21] [4, 8, 12, 160] ⟨[(1, .ref 4 1 0), (2, .ref 8 1 0), (3, .ref 12 1 0), (4, sB all), (5, sI ((i : Nat) : Int)), (21, sB (decide (((i : Nat) : Int) < ((List.length (Xpr.Kids e) : Nat) : Int))))], [(4, .box 1 [sI (Xpr.Kind e), sI (Xpr.Col e), sB (Val.Null (Xpr.V e)), sI (Val.N (Xpr.V e)), sD9 (Xpr.Kids e)]), (8, .box 1 [sI 0, sI 0, sB false, sI 0, .nilsl]), (12, .box 1 [sI (Xpr.Kind e), sI 0, sB false, sI 0, .arr 160 1]), (160, .arr 1 (.named 1) (ar160 : List Xpr))]⟩ ?_))
    refine AW.cd (decide (((i : Nat) : Int) < ((List.length (Xpr.Kids e) : Nat) : Int))) ?_ ?_
    ·
     intro h24
     have h24q := (of_decide_eq_true h24)
     have e25 := e22.trans (Go.Am.bif_t h24)
     refine AW.kp [1, 2, 3, 4, 5] [4, 8, 12, 160] ⟨[(1, .ref 4 1 0), (2, .ref 8 1 0), (3, .ref 12 1 0), (4, sB all), (5, sI ((i : Nat) : Int))], [(4, .box 1 [sI (Xpr.Kind e), sI (Xpr.Col e), sB (Val.Null (Xpr.V e)), sI (Val.N (Xpr.V e)), sD9 (Xpr.Kids e)]), (8, .box 1 [sI 0, sI 0, sB false, sI 0, .nilsl]), (12, .box 1 [sI (Xpr.Kind e), sI 0, sB false, sI 0, .arr 160 1]), (160, .arr 1 (.named 1) (ar160 : List Xpr))]⟩ ?_
     refine AW.skip (AW.seq (AW.block (AW.seq (AW.r0 hC [1, 2, 3, 4, 5, 6] [4, 8, 12, 24, 160] ⟨[(1, .ref 4 1 0), (2, .ref 8 1 0), (3, .ref 12 1 0), (4, sB all), (5, sI ((i : Nat) : Int)), (6, .ref 24 1 0)], [(4, .box 1 [sI (Xpr.Kind e), sI (Xpr.Col e), sB (Val.Null (Xpr.V e)), sI (Val.N (Xpr.V e)), sD9 (Xpr.Kids e)]), (8, .box 1 [sI 0, sI 0, sB false, sI 0, .nilsl]), (12, .box 1 [sI (Xpr.Kind e), sI 0, sB false, sI 0, .arr 160 1]), (24, .box 1 [sI (Xpr.Kind ((fold_r fuel) (List.getD (Xpr.Kids e) i Xpr.zero))), sI (Xpr.Col ((fold_r fuel) (List.getD (Xpr.Kids e) i Xpr.zero))), sB (Val.Null (Xpr.V ((fold_r fuel) (List.getD (Xpr.Kids e) i Xpr.zero)))), sI (Val.N (Xpr.V ((fold_r fuel) (List.getD (Xpr.Kids e) i Xpr.zero)))), sD9 (Xpr.Kids ((fold_r fuel) (List.getD (Xpr.Kids e) i Xpr.zero)))]), (160, .arr 1 (.named 1) (ar160 : List Xpr))]⟩ [IX ((i : Nat) : Int) ((List.length (Xpr.Kids e) : Nat) : Int), ((∃ w, VL w (List.getD (Xpr.Kids e) i Xpr.zero)) ∧ SizeOf.sizeOf (List.getD (Xpr.Kids e) i Xpr.zero) < fuel)] ?_ ?_))))
     ·
      refine ⟨?_, ?_, trivial⟩
      ·
       refine IX.of ?_
       omega
      ·
       exact ⟨⟨w0, hvl.kid (by omega)⟩, Nat.lt_of_lt_of_le (kid_lt (by omega)) (Nat.le_of_lt_succ hpre.2)⟩
     refine AW.seq (AW.r0 hC [1, 2, 3, 4, 5, 6] [4, 8, 12, 24, 160] ⟨[(1, .ref 4 1 0), (2, .ref 8 1 0), (3, .ref 12 1 0), (4, sB (bif all then ((Xpr.Kind ((fold_r fuel) (List.getD (Xpr.Kids e) i Xpr.zero))) == 2) else false)), (5, sI ((i : Nat) : Int)), (6, .ref 24 1 0)], [(4, .box 1 [sI (Xpr.Kind e), sI (Xpr.Col e), sB (Val.Null (Xpr.V e)), sI (Val.N (Xpr.V e)), sD9 (Xpr.Kids e)]), (8, .box 1 [sI 0, sI 0, sB false, sI 0, .nilsl]), (12, .box 1 [sI (Xpr.Kind e), sI 0, sB false, sI 0, .arr 160 1]), (24, .box 1 [sI (Xpr.Kind ((fold_r fuel) (List.getD (Xpr.Kids e) i Xpr.zero))), sI (Xpr.Col ((fold_r fuel) (List.getD (Xpr.Kids e) i Xpr.zero))), sB (Val.Null (Xpr.V ((fold_r fuel) (List.getD (Xpr.Kids e) i Xpr.zero)))), sI (Val.N (Xpr.V ((fold_r fuel) (List.getD (Xpr.Kids e) i Xpr.zero)))), sD9 (Xpr.Kids ((fold_r fuel) (List.getD (Xpr.Kids e) i Xpr.zero)))]), (160, .arr 1 (.named 1) (ar160 : List Xpr))]⟩ [((all = true) → ((all = true))), ((all = true) → ((all = true))), ((all = true) → ((all = true)))] ?_ ?_)
     ·
      refine ⟨?_, ?_, ?_, trivial⟩
      ·
       intro g26
       have g26p0 : all = true := g26
       assumption
      ·
       intro g27
       have g27p0 : all = true := g27
       assumption
      ·
       intro g28
       have g28p0 : all = true := g28
       assumption
     refine AW.r0 hC [1, 2, 3, 4, 5] [4, 8, 12, 160] ⟨[(1, .ref 4 1 0), (2, .ref 8 1 0), (3, .ref 12 1 0), (4, sB (bif all then ((Xpr.Kind ((fold_r fuel) (List.getD (Xpr.Kids e) i Xpr.zero))) == 2) else false)), (5, sI ((i : Nat) : Int))], [(4, .box 1 [sI (Xpr.Kind e), sI (Xpr.Col e), sB (Val.Null (Xpr.V e)), sI (Val.N (Xpr.V e)), sD9 (Xpr.Kids e)]), (8, .box 1 [sI 0, sI 0, sB false, sI 0, .nilsl]), (12, .box 1 [sI (Xpr.Kind e), sI 0, sB false, sI 0, .arr 160 1]), (160, .arr 1 (.named 1) ((ar160 ++ ([(Xpr.mk (Xpr.Kind ((fold_r fuel) (List.getD (Xpr.Kids e) i Xpr.zero))) (Xpr.Col ((fold_r fuel) (List.getD (Xpr.Kids e) i Xpr.zero))) (Xpr.V ((fold_r fuel) (List.getD (Xpr.Kids e) i Xpr.zero))) (Xpr.Kids ((fold_r fuel) (List.getD (Xpr.Kids e) i Xpr.zero))))] : List Xpr)) : List Xpr))]⟩ [(((List.length ar160 : Nat) : Int) + ((List.length ([(Xpr.mk (Xpr.Kind ((fold_r fuel) (List.getD (Xpr.Kids e) i Xpr.zero))) (Xpr.Col ((fold_r fuel) (List.getD (Xpr.Kids e) i Xpr.zero))) (Xpr.V ((fold_r fuel) (List.getD (Xpr.Kids e) i Xpr.zero))) (Xpr.Kids ((fold_r fuel) (List.getD (Xpr.Kids e) i Xpr.zero))))] : List Xpr) : Nat) : Int) ≤ 4294967296)] ?_ ?_
     ·
      refine ⟨?_, trivial⟩
      ·
       simp only [List.length_cons, List.length_nil, List.length_append]; omega
     refine AW.r0 hC [1, 2, 3, 4, 5] [4, 8, 12, 160] ⟨[(1, .ref 4 1 0), (2, .ref 8 1 0), (3, .ref 12 1 0), (4, sB (bif all then ((Xpr.Kind ((fold_r fuel) (List.getD (Xpr.Kids e) i Xpr.zero))) == 2) else false)), (5, sI ((i + 1 : Nat) : Int))], [(4, .box 1 [sI (Xpr.Kind e), sI (Xpr.Col e), sB (Val.Null (Xpr.V e)), sI (Val.N (Xpr.V e)), sD9 (Xpr.Kids e)]), (8, .box 1 [sI 0, sI 0, sB false, sI 0, .nilsl]), (12, .box 1 [sI (Xpr.Kind e), sI 0, sB false, sI 0, .arr 160 1]), (160, .arr 1 (.named 1) ((ar160 ++ ([(Xpr.mk (Xpr.Kind ((fold_r fuel) (List.getD (Xpr.Kids e) i Xpr.zero))) (Xpr.Col ((fold_r fuel) (List.getD (Xpr.Kids e) i Xpr.zero))) (Xpr.V ((fold_r fuel) (List.getD (Xpr.Kids e) i Xpr.zero))) (Xpr.Kids ((fold_r fuel) (List.getD (Xpr.Kids e) i Xpr.zero))))] : List Xpr)) : List Xpr))]⟩ [R64 ((i + 1 : Nat) : Int)] ?_ ?_
     ·
      refine ⟨?_, trivial⟩
      ·
       refine R64.of ?_
       omega
     refine AW.back (x := (all, i, ar160)) ((bif all then ((Xpr.Kind ((fold_r fuel) (List.getD (Xpr.Kids e) i Xpr.zero))) == 2) else false), i + 1, (ar160 ++ ([(Xpr.mk (Xpr.Kind ((fold_r fuel) (List.getD (Xpr.Kids e) i Xpr.zero))) (Xpr.Col ((fold_r fuel) (List.getD (Xpr.Kids e) i Xpr.zero))) (Xpr.V ((fold_r fuel) (List.getD (Xpr.Kids e) i Xpr.zero))) (Xpr.Kids ((fold_r fuel) (List.getD (Xpr.Kids e) i Xpr.zero))))] : List Xpr))) (by kernel_rfl) ⟨?_, k23q, ?_, e25⟩ ?_
     ·
      show ((ar160 ++ ([(Xpr.mk (Xpr.Kind ((fold_r fuel) (List.getD (Xpr.Kids e) i Xpr.zero))) (Xpr.Col ((fold_r fuel) (List.getD (Xpr.Kids e) i Xpr.zero))) (Xpr.V ((fold_r fuel) (List.getD (Xpr.Kids e) i Xpr.zero))) (Xpr.Kids ((fold_r fuel) (List.getD (Xpr.Kids e) i Xpr.zero))))] : List Xpr)) = List.map (fold_r fuel) (List.take (i + 1) (Xpr.Kids e)) ∧ (bif all then ((Xpr.Kind ((fold_r fuel) (List.getD (Xpr.Kids e) i Xpr.zero))) == 2) else false) = List.all (ar160 ++ ([(Xpr.mk (Xpr.Kind ((fold_r fuel) (List.getD (Xpr.Kids e) i Xpr.zero))) (Xpr.Col ((fold_r fuel) (List.getD (Xpr.Kids e) i Xpr.zero))) (Xpr.V ((fold_r fuel) (List.getD (Xpr.Kids e) i Xpr.zero))) (Xpr.Kids ((fold_r fuel) (List.getD (Xpr.Kids e) i Xpr.zero))))] : List Xpr)) (fun x => x.Kind == 2)) ∧ (i + 1) ≤ List.length (Xpr.Kids e) ∧ List.length (ar160 ++ ([(Xpr.mk (Xpr.Kind ((fold_r fuel) (List.getD (Xpr.Kids e) i Xpr.zero))) (Xpr.Col ((fold_r fuel) (List.getD (Xpr.Kids e) i Xpr.zero))) (Xpr.V ((fold_r fuel) (List.getD (Xpr.Kids e) i Xpr.zero))) (Xpr.Kids ((fold_r fuel) (List.getD (Xpr.Kids e) i Xpr.zero))))] : List Xpr)) = (i + 1)
      exact inv_fold hI0 (by omega)
     ·
      show (List.length (Xpr.Kids e)) - (i + 1) < k23q
      omega
     ·
      show (List.length (Xpr.Kids e)) - (i + 1) < (List.length (Xpr.Kids e)) - i
      omega
    ·
     intro h29
     have h29q := (of_decide_eq_false h29)
     have e30 := e22.trans (Go.Am.bif_f h29)
     refine AW.kp [2, 3, 4] [8, 12, 160] ⟨[(2, .ref 8 1 0), (3, .ref 12 1 0), (4, sB all)], [(8, .box 1 [sI 0, sI 0, sB false, sI 0, .nilsl]), (12, .box 1 [sI (Xpr.Kind e), sI 0, sB false, sI 0, .arr 160 1]), (160, .arr 1 (.named 1) (ar160 : List Xpr))]⟩ ?_
     refine AW.exit ?_
     refine AW.meet (all, ar160) (by kernel_rfl) ⟨?_, e30⟩
     show (ar160 = List.map (fold_r fuel) (Xpr.Kids e) ∧ all = List.all ar160 (fun x => x.Kind == 2)) ∧ List.length ar160 ≤ 2
     exact ⟨⟨hI0.1.1.trans (by rw [List.take_of_length_le (by omega)]), hI0.1.2⟩, by omega⟩
  ·
   intro x hR
   obtain ⟨all, ar160⟩ := x
   obtain ⟨hJ0, e31⟩ := hR
   replace hJ0 : (ar160 = List.map (fold_r fuel) (Xpr.Kids e) ∧ all = List.all ar160 (fun x => x.Kind == 2)) ∧ List.length ar160 ≤ 2 := hJ0
   have e32 := e4.trans (Go.Am.then_eq e31)
   refine AW.seq (AW.seq (AW.r1 hC [2, 3, 42] [8, 12, 160] ⟨[(2, .ref 8 1 0), (3, .ref 12 1 0), (42, sB all)], [(8, .box 1 [sI 0, sI 0, sB false, sI 0, .nilsl]), (12, .box 1 [sI (Xpr.Kind e), sI 0, sB false, sI 0, .arr 160 1]), (160, .arr 1 (.named 1) (ar160 : List Xpr))]⟩ ?_))
   refine AW.cd all ?_ ?_
   ·
    intro h33
    have h33q : all = true := h33
    have e34 := e32.trans (Go.Am.bif_t h33)
    refine AW.seq (AW.r0 hC [2] [8] ⟨[(2, .ref 8 1 0)], [(8, .box 1 [sI (Xpr.Kind (constant (evalExpr (Xpr.mk (Xpr.Kind e) 0 (Val.mk false 0) ar160) ([] : List Val)))), sI (Xpr.Col (constant (evalExpr (Xpr.mk (Xpr.Kind e) 0 (Val.mk false 0) ar160) ([] : List Val)))), sB (Val.Null (Xpr.V (constant (evalExpr (Xpr.mk (Xpr.Kind e) 0 (Val.mk false 0) ar160) ([] : List Val))))), sI (Val.N (Xpr.V (constant (evalExpr (Xpr.mk (Xpr.Kind e) 0 (Val.mk false 0) ar160) ([] : List Val))))), sD9 (Xpr.Kids (constant (evalExpr (Xpr.mk (Xpr.Kind e) 0 (Val.mk false 0) ar160) ([] : List Val))))])]⟩ [(VXr ([] : List Val) (Xpr.mk (Xpr.Kind e) 0 (Val.mk false 0) ar160)), (True)] ?_ ?_)
    ·
     refine ⟨?_, ?_, trivial⟩
     ·
      obtain ⟨n, o1, o2, o3⟩ := fold_out hvl (by omega) hsz hJ0.1.1
      exact out_vxr o1 o2 o3 (hJ0.1.2.symm.trans h33q)
     ·
      trivial
    exact AW.ret (AW.retE (β := Xpr) (fun v => [⟨(.named 1), v⟩]) (fun v => []) (v := (Xpr.mk (Xpr.Kind (constant (evalExpr (Xpr.mk (Xpr.Kind e) 0 (Val.mk false 0) ar160) ([] : List Val)))) (Xpr.Col (constant (evalExpr (Xpr.mk (Xpr.Kind e) 0 (Val.mk false 0) ar160) ([] : List Val)))) (Xpr.V (constant (evalExpr (Xpr.mk (Xpr.Kind e) 0 (Val.mk false 0) ar160) ([] : List Val)))) (Xpr.Kids (constant (evalExpr (Xpr.mk (Xpr.Kind e) 0 (Val.mk false 0) ar160) ([] : List Val)))))) e34 (by kernel_rfl) rfl rfl)
   ·
    intro h35
    have h35q : all = false := h35
    have e36 := e32.trans (Go.Am.bif_f h35)
    refine AW.kp [2, 3] [8, 12, 160] ⟨[(2, .ref 8 1 0), (3, .ref 12 1 0)], [(8, .box 1 [sI 0, sI 0, sB false, sI 0, .nilsl]), (12, .box 1 [sI (Xpr.Kind e), sI 0, sB false, sI 0, .arr 160 1]), (160, .arr 1 (.named 1) (ar160 : List Xpr))]⟩ ?_
    refine AW.skip (AW.seq (AW.seq (AW.r1 hC [2, 3, 7] [8, 12, 160] ⟨[(2, .ref 8 1 0), (3, .ref 12 1 0), (7, sI 0)], [(8, .box 1 [sI 0, sI 0, sB false, sI 0, .nilsl]), (12, .box 1 [sI (Xpr.Kind e), sI 0, sB false, sI 0, .arr 160 1]), (160, .arr 1 (.named 1) (ar160 : List Xpr))]⟩ ?_)))
    refine AW.cutQ (α := Unit) (fun x => ⟨[(2, .ref 8 1 0), (3, .ref 12 1 0)], [(8, .box 1 [sI 0, sI 0, sB false, sI 0, .nilsl]), (12, .box 1 [sI (Xpr.Kind e), sI 0, sB false, sI 0, .arr 160 1]), (160, .arr 1 (.named 1) (ar160 : List Xpr))]⟩) (fun x => (True) ∧ (fold_l1 e ar160 ((List.length ar160) - 0 + 1) 0) = (.inl ())) ?_ ?_
    ·
     skip
     refine AW.block (AW.loop (α := Nat) (fun x => ⟨[(2, .ref 8 1 0), (3, .ref 12 1 0), (7, sI ((x : Nat) : Int))], [(8, .box 1 [sI 0, sI 0, sB false, sI 0, .nilsl]), (12, .box 1 [sI (Xpr.Kind e), sI 0, sB false, sI 0, .arr 160 1]), (160, .arr 1 (.named 1) (ar160 : List Xpr))]⟩) (fun x => (True) ∧ ∃ k, (List.length ar160) - x < k ∧ (fold_l1 e ar160 ((List.length ar160) - 0 + 1) 0) = fold_l1 e ar160 k x) (fun x => (List.length ar160) - x) 0 (by kernel_rfl) ⟨?_, _, Nat.lt_succ_self _, rfl⟩ ?_)
     ·
      show True
      exact trivial
     ·
      intro i hR
      obtain ⟨hI1, k81, hk79, e80⟩ := hR
      replace hI1 : True := hI1
      replace hk79 : (List.length ar160) - i < k81 := hk79
      obtain ⟨k81q, rfl⟩ : ∃ k, k81 = k + 1 := ⟨k81 - 1, by omega⟩
      refine AW.seq (AW.seq (AW.r1 hC [2, 3, 7, 51] [8, 12, 160] ⟨[(2, .ref 8 1 0), (3, .ref 12 1 0), (7, sI ((i : Nat) : Int)), (51, sB (decide (((i : Nat) : Int) < ((List.length ar160 : Nat) : Int))))], [(8, .box 1 [sI 0, sI 0, sB false, sI 0, .nilsl]), (12, .box 1 [sI (Xpr.Kind e), sI 0, sB false, sI 0, .arr 160 1]), (160, .arr 1 (.named 1) (ar160 : List Xpr))]⟩ ?_))
      refine AW.cd (decide (((i : Nat) : Int) < ((List.length ar160 : Nat) : Int))) ?_ ?_
      ·
       intro h82
       have h82q := (of_decide_eq_true h82)
       have e83 := e80.trans (Go.Am.bif_t h82)
       refine AW.kp [2, 3, 7] [8, 12, 160] ⟨[(2, .ref 8 1 0), (3, .ref 12 1 0), (7, sI ((i : Nat) : Int))], [(8, .box 1 [sI 0, sI 0, sB false, sI 0, .nilsl]), (12, .box 1 [sI (Xpr.Kind e), sI 0, sB false, sI 0, .arr 160 1]), (160, .arr 1 (.named 1) (ar160 : List Xpr))]⟩ ?_
       refine AW.skip (AW.seq (AW.block (AW.seq (AW.seq (AW.r0 hC [2, 3, 7, 64] [8, 12, 160] ⟨[(2, .ref 8 1 0), (3, .ref 12 1 0), (7, sI ((i : Nat) : Int)), (64, sB (bif ((Xpr.Kind e) == 8) then (isConstant (List.getD ar160 i Xpr.zero) 0) else false))], [(8, .box 1 [sI 0, sI 0, sB false, sI 0, .nilsl]), (12, .box 1 [sI (Xpr.Kind e), sI 0, sB false, sI 0, .arr 160 1]), (160, .arr 1 (.named 1) (ar160 : List Xpr))]⟩ [((((Xpr.Kind e) == 8) = true) → ((((Xpr.Kind e) == 8) = true))), ((((Xpr.Kind e) == 8) = true) → ((((Xpr.Kind e) == 8) = true))), ((((Xpr.Kind e) == 8) = true) → ((((Xpr.Kind e) == 8) = true))), ((((Xpr.Kind e) == 8) = true) → IX ((i : Nat) : Int) ((List.length ar160 : Nat) : Int)), ((((Xpr.Kind e) == 8) = true) → ((((Xpr.Kind e) == 8) = true))), ((((Xpr.Kind e) == 8) = true) → ((((Xpr.Kind e) == 8) = true))), ((((Xpr.Kind e) == 8) = true) → (True)), ((((Xpr.Kind e) == 8) = true) → ((((Xpr.Kind e) == 8) = true)))] ?_ ?_)))))
       ·
        refine ⟨?_, ?_, ?_, ?_, ?_, ?_, ?_, ?_, trivial⟩
        ·
         intro g84
         have g84p0 : (Xpr.Kind e) = 8 := (Go.Am.beq_pos g84)
         assumption
        ·
         intro g85
         have g85p0 : (Xpr.Kind e) = 8 := (Go.Am.beq_pos g85)
         assumption
        ·
         intro g86
         have g86p0 : (Xpr.Kind e) = 8 := (Go.Am.beq_pos g86)
         assumption
        ·
         intro g87
         have g87p0 : (Xpr.Kind e) = 8 := (Go.Am.beq_pos g87)
         refine IX.of ?_
         omega
        ·
         intro g88
         have g88p0 : (Xpr.Kind e) = 8 := (Go.Am.beq_pos g88)
         assumption
        ·
         intro g89
         have g89p0 : (Xpr.Kind e) = 8 := (Go.Am.beq_pos g89)
         assumption
        ·
         intro g90
         have g90p0 : (Xpr.Kind e) = 8 := (Go.Am.beq_pos g90)
         trivial
        ·
         intro g91
         have g91p0 : (Xpr.Kind e) = 8 := (Go.Am.beq_pos g91)
         assumption
       refine AW.cd (bif ((Xpr.Kind e) == 8) then (isConstant (List.getD ar160 i Xpr.zero) 0) else false) ?_ ?_
       ·
        intro h92
        have h92q : ((Xpr.Kind e) = 8) ∧ ((isConstant (List.getD ar160 i Xpr.zero) 0) = true) := (And.imp (fun h => (Go.Am.beq_pos h)) (fun h => h) (Go.Am.and_pos h92))
        have e93 := e83.trans (Go.Am.bif_t h92)
        refine AW.seq (AW.r0 hC [2] [8] ⟨[(2, .ref 8 1 0)], [(8, .box 1 [sI (Xpr.Kind (constant (Val.mk false 0))), sI (Xpr.Col (constant (Val.mk false 0))), sB (Val.Null (Xpr.V (constant (Val.mk false 0)))), sI (Val.N (Xpr.V (constant (Val.mk false 0)))), sD9 (Xpr.Kids (constant (Val.mk false 0)))])]⟩ [(True)] ?_ ?_)
        ·
         refine ⟨?_, trivial⟩
         ·
          trivial
        refine AW.ret ?_
        have e94 := e36.trans (Go.Am.elim_r e93)
        exact AW.retE (β := Xpr) (fun v => [⟨(.named 1), v⟩]) (fun v => []) (v := (Xpr.mk (Xpr.Kind (constant (Val.mk false 0))) (Xpr.Col (constant (Val.mk false 0))) (Xpr.V (constant (Val.mk false 0))) (Xpr.Kids (constant (Val.mk false 0))))) e94 (by kernel_rfl) rfl rfl
       ·
        intro h95
        have h95q : ((Xpr.Kind e) ≠ 8) ∨ ((isConstant (List.getD ar160 i Xpr.zero) 0) = false) := (Or.imp (fun h => (Go.Am.beq_neg h)) (fun h => h) (Go.Am.and_neg h95))
        have e96 := e83.trans (Go.Am.bif_f h95)
        refine AW.kp [2, 3, 7] [8, 12, 160] ⟨[(2, .ref 8 1 0), (3, .ref 12 1 0), (7, sI ((i : Nat) : Int))], [(8, .box 1 [sI 0, sI 0, sB false, sI 0, .nilsl]), (12, .box 1 [sI (Xpr.Kind e), sI 0, sB false, sI 0, .arr 160 1]), (160, .arr 1 (.named 1) (ar160 : List Xpr))]⟩ ?_
        refine AW.skip (AW.seq (AW.r0 hC [2, 3, 7, 77] [8, 12, 160] ⟨[(2, .ref 8 1 0), (3, .ref 12 1 0), (7, sI ((i : Nat) : Int)), (77, sB (bif ((Xpr.Kind e) == 9) then (isConstant (List.getD ar160 i Xpr.zero) 1) else false))], [(8, .box 1 [sI 0, sI 0, sB false, sI 0, .nilsl]), (12, .box 1 [sI (Xpr.Kind e), sI 0, sB false, sI 0, .arr 160 1]), (160, .arr 1 (.named 1) (ar160 : List Xpr))]⟩ [((((Xpr.Kind e) == 9) = true) → ((((Xpr.Kind e) == 9) = true))), ((((Xpr.Kind e) == 9) = true) → ((((Xpr.Kind e) == 9) = true))), ((((Xpr.Kind e) == 9) = true) → ((((Xpr.Kind e) == 9) = true))), ((((Xpr.Kind e) == 9) = true) → IX ((i : Nat) : Int) ((List.length ar160 : Nat) : Int)), ((((Xpr.Kind e) == 9) = true) → ((((Xpr.Kind e) == 9) = true))), ((((Xpr.Kind e) == 9) = true) → ((((Xpr.Kind e) == 9) = true))), ((((Xpr.Kind e) == 9) = true) → (True)), ((((Xpr.Kind e) == 9) = true) → ((((Xpr.Kind e) == 9) = true)))] ?_ ?_))
        ·
         refine ⟨?_, ?_, ?_, ?_, ?_, ?_, ?_, ?_, trivial⟩
         ·
          intro g97
          have g97p0 : (Xpr.Kind e) = 9 := (Go.Am.beq_pos g97)
          assumption
         ·
          intro g98
          have g98p0 : (Xpr.Kind e) = 9 := (Go.Am.beq_pos g98)
          assumption
         ·
          intro g99
          have g99p0 : (Xpr.Kind e) = 9 := (Go.Am.beq_pos g99)
          assumption
         ·
          intro g100
          have g100p0 : (Xpr.Kind e) = 9 := (Go.Am.beq_pos g100)
          refine IX.of ?_
          omega
         ·
          intro g101
          have g101p0 : (Xpr.Kind e) = 9 := (Go.Am.beq_pos g101)
          assumption
         ·
          intro g102
          have g102p0 : (Xpr.Kind e) = 9 := (Go.Am.beq_pos g102)
          assumption
         ·
          intro g103
          have g103p0 : (Xpr.Kind e) = 9 := (Go.Am.beq_pos g103)
          trivial
         ·
          intro g104
          have g104p0 : (Xpr.Kind e) = 9 := (Go.Am.beq_pos g104)
          assumption
        refine AW.cd (bif ((Xpr.Kind e) == 9) then (isConstant (List.getD ar160 i Xpr.zero) 1) else false) ?_ ?_
        ·
         intro h105
         have h105q : ((Xpr.Kind e) = 9) ∧ ((isConstant (List.getD ar160 i Xpr.zero) 1) = true) := (And.imp (fun h => (Go.Am.beq_pos h)) (fun h => h) (Go.Am.and_pos h105))
         have e106 := e96.trans (Go.Am.bif_t h105)
         refine AW.seq (AW.r0 hC [2] [8] ⟨[(2, .ref 8 1 0)], [(8, .box 1 [sI (Xpr.Kind (constant (Val.mk false 1))), sI (Xpr.Col (constant (Val.mk false 1))), sB (Val.Null (Xpr.V (constant (Val.mk false 1)))), sI (Val.N (Xpr.V (constant (Val.mk false 1)))), sD9 (Xpr.Kids (constant (Val.mk false 1)))])]⟩ [(True)] ?_ ?_)
         ·
          refine ⟨?_, trivial⟩
          ·
           trivial
         refine AW.ret ?_
         have e107 := e36.trans (Go.Am.elim_r e106)
         exact AW.retE (β := Xpr) (fun v => [⟨(.named 1), v⟩]) (fun v => []) (v := (Xpr.mk (Xpr.Kind (constant (Val.mk false 1))) (Xpr.Col (constant (Val.mk false 1))) (Xpr.V (constant (Val.mk false 1))) (Xpr.Kids (constant (Val.mk false 1))))) e107 (by kernel_rfl) rfl rfl
        ·
         intro h108
         have h108q : ((Xpr.Kind e) ≠ 9) ∨ ((isConstant (List.getD ar160 i Xpr.zero) 1) = false) := (Or.imp (fun h => (Go.Am.beq_neg h)) (fun h => h) (Go.Am.and_neg h108))
         have e109 := e96.trans (Go.Am.bif_f h108)
         refine AW.kp [2, 3, 7] [8, 12, 160] ⟨[(2, .ref 8 1 0), (3, .ref 12 1 0), (7, sI ((i : Nat) : Int))], [(8, .box 1 [sI 0, sI 0, sB false, sI 0, .nilsl]), (12, .box 1 [sI (Xpr.Kind e), sI 0, sB false, sI 0, .arr 160 1]), (160, .arr 1 (.named 1) (ar160 : List Xpr))]⟩ ?_
         refine AW.skip (AW.r0 hC [2, 3, 7] [8, 12, 160] ⟨[(2, .ref 8 1 0), (3, .ref 12 1 0), (7, sI ((i + 1 : Nat) : Int))], [(8, .box 1 [sI 0, sI 0, sB false, sI 0, .nilsl]), (12, .box 1 [sI (Xpr.Kind e), sI 0, sB false, sI 0, .arr 160 1]), (160, .arr 1 (.named 1) (ar160 : List Xpr))]⟩ [R64 ((i + 1 : Nat) : Int)] ?_ ?_)
         ·
          refine ⟨?_, trivial⟩
          ·
           refine R64.of ?_
           omega
         refine AW.back (x := i) (i + 1) (by kernel_rfl) ⟨?_, k81q, ?_, e109⟩ ?_
         ·
          show True
          assumption
         ·
          show (List.length ar160) - (i + 1) < k81q
          omega
         ·
          show (List.length ar160) - (i + 1) < (List.length ar160) - i
          omega
      ·
       intro h110
       have h110q := (of_decide_eq_false h110)
       have e111 := e80.trans (Go.Am.bif_f h110)
       refine AW.kp [2, 3] [8, 12, 160] ⟨[(2, .ref 8 1 0), (3, .ref 12 1 0)], [(8, .box 1 [sI 0, sI 0, sB false, sI 0, .nilsl]), (12, .box 1 [sI (Xpr.Kind e), sI 0, sB false, sI 0, .arr 160 1]), (160, .arr 1 (.named 1) (ar160 : List Xpr))]⟩ ?_
       refine AW.exit ?_
       refine AW.meet () (by kernel_rfl) ⟨?_, e111⟩
       show True
       assumption
    ·
     intro x hR
     obtain ⟨hJ1, e112⟩ := hR
     replace hJ1 : True := hJ1
     have e113 := e36.trans (Go.Am.elim_l e112)
     refine AW.seq (AW.r1 hC [2] [8, 160] ⟨[(2, .ref 8 1 0)], [(8, .box 1 [sI (Xpr.Kind e), sI 0, sB false, sI 0, .arr 160 1]), (160, .arr 1 (.named 1) (ar160 : List Xpr))]⟩ ?_)
     exact AW.ret (AW.retE (β := Xpr) (fun v => [⟨(.named 1), v⟩]) (fun v => []) (v := (Xpr.mk (Xpr.Kind e) 0 (Val.mk false 0) ar160)) e113 (by kernel_rfl) rfl rfl)

theorem fold_fu : AllTV (fold_sp.ps.map PK.ty) (fun tvs => fold_sp.pre tvs → ∃ k, (fold_spn k).pre tvs ∧ (fold_spn k).fn tvs = fold_sp.fn tvs ∧ (fold_spn k).bx tvs = fold_sp.bx tvs) :=
 (fun (e : Xpr) h => ⟨SizeOf.sizeOf e + 1, (show (∃ w, VL w e) ∧ SizeOf.sizeOf e < SizeOf.sizeOf e + 1 from ⟨h, Nat.lt_succ_self _⟩), (show (fold_spn (SizeOf.sizeOf e + 1)).fn [⟨(.named 1), (e : Xpr)⟩] = ([⟨(.named 1), (fold_r (SizeOf.sizeOf e + 1) e)⟩] : List TV) from by kernel_rfl).trans (show ([⟨(.named 1), (fold_r (SizeOf.sizeOf e + 1) e)⟩] : List TV) = fold_sp.fn [⟨(.named 1), (e : Xpr)⟩] from by kernel_rfl), by kernel_rfl⟩)

theorem fold_ok : FnOK Try.prog 97 fold_sp := FnOK.of_fuel fold_okn (fun _ => rfl) (fun _ => rfl) (AllTV.get fold_fu)

end
end Go.Proofs.Ytodcdgolcbdkgaa
