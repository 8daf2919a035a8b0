/-
  A part of the proof of this claim (ApT8): what functions of the program compute, and plain facts of that. No conditions.
-/
import Derived.Test.YtodcdgolcbdkgaaApT7
set_option linter.all false
namespace Go.Proofs.Ytodcdgolcbdkgaa
open Go Go.Am
noncomputable section

theorem set_take {α : Type} {l : List α} {i : Nat} {x : α} (h : i < l.length) : (l.set i x).take (i + 1) = l.take i ++ [x] := by
 rw [List.take_add_one, List.getElem?_set_self h, List.take_set_of_le (Nat.le_refl _)]
 rfl

theorem set_get {l : List Xpr} {i : Nat} {x : Xpr} (h : i < l.length) : (l.set i x).getD i Xpr.zero = x := by
 rw [List.getD_eq_getElem?_getD, List.getElem?_set_self h]
 rfl

def FI (self : Xpr → Xpr) (kids ar : List Xpr) (c i : Nat) : Prop := (ar.take i = (kids.take i).map self ∧ c = ((kids.take i).map self).countP (fun x => x.Kind == 2)) ∧ (i ≤ kids.length ∧ ar.length = kids.length) ∧ c ≤ i

theorem FI.yes {self : Xpr → Xpr} {kids ar : List Xpr} {c i : Nat} (h : FI self kids ar c i) (hi : i < kids.length) (hc : Xpr.Kind ((ar.set i (self (kids.getD i Xpr.zero))).getD i Xpr.zero) = 2) : FI self kids (ar.set i (self (kids.getD i Xpr.zero))) (c + 1) (i + 1) := by
 have hl : i < ar.length := by have := h.2.1.2; omega
 rw [set_get hl] at hc
 refine ⟨⟨by rw [set_take hl, take_map hi, h.1.1], ?_⟩, ⟨hi, by rw [List.length_set]; exact h.2.1.2⟩, by have := h.2.2; omega⟩
 rw [take_map hi, List.countP_append, ← h.1.2, List.countP_cons_of_pos (by exact beq_iff_eq.2 hc)]
 rfl

theorem FI.no {self : Xpr → Xpr} {kids ar : List Xpr} {c i : Nat} (h : FI self kids ar c i) (hi : i < kids.length) (hc : ¬ Xpr.Kind ((ar.set i (self (kids.getD i Xpr.zero))).getD i Xpr.zero) = 2) : FI self kids (ar.set i (self (kids.getD i Xpr.zero))) c (i + 1) := by
 have hl : i < ar.length := by have := h.2.1.2; omega
 rw [set_get hl] at hc
 refine ⟨⟨by rw [set_take hl, take_map hi, h.1.1], ?_⟩, ⟨hi, by rw [List.length_set]; exact h.2.1.2⟩, by have := h.2.2; omega⟩
 rw [take_map hi, List.countP_append, ← h.1.2, List.countP_cons_of_neg (by rw [beq_eq_false_iff_ne.2 hc]; exact Bool.false_ne_true)]
 rfl

theorem FI.out {self : Xpr → Xpr} {kids ar : List Xpr} {c i : Nat} (h : FI self kids ar c i) (hi : ¬ i < kids.length) : (ar = kids.map self ∧ c = ar.countP (fun x => x.Kind == 2)) ∧ ar.length = kids.length := by
 have e1 := h.1.1
 have e2 := h.1.2
 rw [List.take_of_length_le (by have := h.2.1.2; omega), List.take_of_length_le (by omega)] at e1
 rw [List.take_of_length_le (by omega), ← e1] at e2
 exact ⟨⟨e1, e2⟩, h.2.1.2⟩

theorem all_count {ks : List Xpr} {c : Nat} (h : c = ks.countP (fun x => x.Kind == 2)) (hc : ((c : Nat) : Int) = ((ks.length : Nat) : Int)) : ks.all (fun x => x.Kind == 2) = true := by
 rw [List.all_eq_true]
 exact List.countP_eq_length.1 (by omega)

theorem const_truth {x : Xpr} (h : x.Kind = 2) : isConstant x 0 = (truthOf x.V == 0) ∧ isConstant x 1 = (truthOf x.V == 2) := by
 unfold isConstant truth truthOf
 rw [h]
 cases x.V.Null with
 | true => exact ⟨rfl, rfl⟩
 | false => cases (x.V.N == 0) <;> exact ⟨rfl, rfl⟩

theorem noconst {x : Xpr} (h : (x.Kind != 2) = true) (t : Int) : isConstant x t = false := by
 unfold isConstant
 rw [show (x.Kind == 2) = false from beq_eq_false_iff_ne.2 (bne_iff_ne.1 h)]
 rfl

def folded_l0 (self : Xpr → Xpr) (e : Xpr) : Nat → Nat → Nat → (List Xpr) → Nat × (List Xpr)
 | 0, constants, v33, ar104 => (constants, ar104)
 | k + 1, constants, v33, ar104 => (bif (decide (((v33 : Nat) : Int) < ((List.length (Xpr.Kids e) : Nat) : Int))) then (bif ((Xpr.Kind (List.getD (List.set ar104 v33 (Xpr.mk (Xpr.Kind (self (List.getD (Xpr.Kids e) v33 Xpr.zero))) (Xpr.Col (self (List.getD (Xpr.Kids e) v33 Xpr.zero))) (Xpr.V (self (List.getD (Xpr.Kids e) v33 Xpr.zero))) (Xpr.Kids (self (List.getD (Xpr.Kids e) v33 Xpr.zero))))) v33 Xpr.zero)) == 2) then (folded_l0 self e k (constants + 1) (v33 + 1) (List.set ar104 v33 (Xpr.mk (Xpr.Kind (self (List.getD (Xpr.Kids e) v33 Xpr.zero))) (Xpr.Col (self (List.getD (Xpr.Kids e) v33 Xpr.zero))) (Xpr.V (self (List.getD (Xpr.Kids e) v33 Xpr.zero))) (Xpr.Kids (self (List.getD (Xpr.Kids e) v33 Xpr.zero)))))) else (folded_l0 self e k constants (v33 + 1) (List.set ar104 v33 (Xpr.mk (Xpr.Kind (self (List.getD (Xpr.Kids e) v33 Xpr.zero))) (Xpr.Col (self (List.getD (Xpr.Kids e) v33 Xpr.zero))) (Xpr.V (self (List.getD (Xpr.Kids e) v33 Xpr.zero))) (Xpr.Kids (self (List.getD (Xpr.Kids e) v33 Xpr.zero))))))) else (constants, ar104))

def folded_l1 (e : Xpr) (ar104 : List Xpr) : Nat → Nat → Unit ⊕ Xpr
 | 0, v67 => .inl ()
 | k + 1, v67 => (bif (decide (((v67 : Nat) : Int) < ((List.length ar104 : Nat) : Int))) then (bif ((Xpr.Kind (List.getD ar104 v67 Xpr.zero)) != 2) then (folded_l1 e ar104 k (v67 + 1)) else (bif (bif (bif ((Xpr.Kind e) == 8) then ((truthOf (Xpr.V (List.getD ar104 v67 Xpr.zero))) == 0) else false) then true else (bif ((Xpr.Kind e) == 9) then ((truthOf (Xpr.V (List.getD ar104 v67 Xpr.zero))) == 2) else false)) then (.inr (Xpr.mk (Xpr.Kind (iconstant (truthValue (truthOf (Xpr.V (List.getD ar104 v67 Xpr.zero)))))) (Xpr.Col (iconstant (truthValue (truthOf (Xpr.V (List.getD ar104 v67 Xpr.zero)))))) (Xpr.V (iconstant (truthValue (truthOf (Xpr.V (List.getD ar104 v67 Xpr.zero)))))) (Xpr.Kids (iconstant (truthValue (truthOf (Xpr.V (List.getD ar104 v67 Xpr.zero)))))))) else (folded_l1 e ar104 k (v67 + 1)))) else (.inl ()))

def folded_r : Nat → Xpr → Xpr
 | 0, e => Xpr.zero
 | fuel + 1, e => (bif (((List.length (Xpr.Kids e) : Nat) : Int) == 0) then (Xpr.mk (Xpr.Kind (icopied e)) (Xpr.Col (icopied e)) (Xpr.V (icopied e)) (Xpr.Kids (icopied e))) else (Go.Am.andThen (folded_l0 (folded_r fuel) e ((List.length (Xpr.Kids e)) - 0 + 1) 0 0 (List.replicate (List.length (Xpr.Kids e)) Xpr.zero : List Xpr)) (fun z => (fun (constants : Nat) (ar104 : List Xpr) => (bif (((constants : Nat) : Int) == ((List.length ar104 : Nat) : Int)) then (Xpr.mk (Xpr.Kind (iconstant (value (Xpr.mk (Xpr.Kind e) 0 (Val.mk false 0) ar104) ([] : List Val)))) (Xpr.Col (iconstant (value (Xpr.mk (Xpr.Kind e) 0 (Val.mk false 0) ar104) ([] : List Val)))) (Xpr.V (iconstant (value (Xpr.mk (Xpr.Kind e) 0 (Val.mk false 0) ar104) ([] : List Val)))) (Xpr.Kids (iconstant (value (Xpr.mk (Xpr.Kind e) 0 (Val.mk false 0) ar104) ([] : List Val))))) else (Sum.elim (fun _ => (Xpr.mk (Xpr.Kind e) 0 (Val.mk false 0) ar104)) (fun r => r) (folded_l1 e ar104 ((List.length ar104) - 0 + 1) 0)))) z.1 z.2)))

def folded (e : Xpr) : Xpr := folded_r (SizeOf.sizeOf e + 1) e

def folded_spn (fuel : Nat) : FnSpec := mkSpec [.rd (.named 1)] [.deep (.named 1)] (fun (e : Xpr) => (∃ w, VL w e) ∧ SizeOf.sizeOf e < fuel) (fun (e : Xpr) => [⟨(.named 1), (folded_r fuel e)⟩])

def folded_sp : FnSpec := mkSpec [.rd (.named 1)] [.deep (.named 1)] (fun (e : Xpr) => ∃ w, VL w e) (fun (e : Xpr) => [⟨(.named 1), (folded e)⟩])

theorem folded_l0_eq (self : Xpr → Xpr) (e : Xpr) : ∀ (k c v : Nat) (ar : List Xpr), e.Kids.length - v < k → ar.length = e.Kids.length → v ≤ e.Kids.length → folded_l0 self e k c v ar = (c + ((e.Kids.drop v).map self).countP (fun x => x.Kind == 2), ar.take v ++ (e.Kids.drop v).map self) := by
 intro k
 induction k with
 | zero => intro c v ar h; omega
 | succ k ih =>
  intro c v ar h hl hv
  unfold folded_l0
  by_cases hlt : v < e.Kids.length
  ·
   have hg : e.Kids.getD v Xpr.zero = e.Kids[v] := by rw [List.getD_eq_getElem?_getD, List.getElem?_eq_getElem hlt]; rfl
   rw [decide_eq_true (by omega : ((v : Nat) : Int) < ((List.length (Xpr.Kids e) : Nat) : Int)), cond_true, List.drop_eq_getElem_cons hlt, set_get (by omega), hg, List.map_cons]
   simp only [Xpr.eta]
   have h1 := fun c => ih c (v + 1) (ar.set v (self e.Kids[v])) (by omega) (by rw [List.length_set]; exact hl) hlt
   simp only [set_take (show v < ar.length by omega), List.append_assoc, List.cons_append, List.nil_append] at h1
   cases hk : (Xpr.Kind (self e.Kids[v]) == 2) with
   | true => rw [cond_true, h1, List.countP_cons_of_pos (by exact hk), Nat.add_assoc, Nat.add_comm 1]
   | false => rw [cond_false, h1, List.countP_cons_of_neg (by rw [hk]; exact Bool.false_ne_true)]
  ·
   rw [decide_eq_false (by omega), cond_false, List.drop_of_length_le (by omega), List.take_of_length_le (by omega)]
   simp

theorem folded_l1_eq (e : Xpr) (ar : List Xpr) (d : Xpr) : ∀ (k i : Nat), ar.length - i < k → Sum.elim (fun _ => d) (fun r => r) (folded_l1 e ar k i) =
  bif (bif e.Kind == 8 then (ar.drop i).any (fun x => isConstant x 0) else false) then constant (Val.mk false 0) else (bif (bif e.Kind == 9 then (ar.drop i).any (fun x => isConstant x 1) else false) then constant (Val.mk false 1) else d) := by
 intro k
 induction k with
 | zero => intro i h; omega
 | succ k ih =>
  intro i h
  unfold folded_l1
  by_cases hlt : i < ar.length
  ·
   rw [decide_eq_true (by omega : ((i : Nat) : Int) < ((List.length ar : Nat) : Int)), cond_true, List.drop_eq_getElem_cons hlt, List.getD_eq_getElem?_getD, List.getElem?_eq_getElem hlt]
   simp only [Option.getD_some, List.any_cons]
   have hih := ih (i + 1) (by omega)
   cases hk : (Xpr.Kind ar[i] != 2) with
   | true =>
    rw [cond_true, noconst hk, noconst hk, Bool.false_or, Bool.false_or]
    exact hih
   | false =>
    obtain ⟨c1, c2⟩ := const_truth (bne_eq_false_iff_eq.1 hk)
    rw [cond_false, c1, c2]
    by_cases h8 : e.Kind = 8
    ·
     have h9 : (e.Kind == 9) = false := by rw [h8]; rfl
     rw [h9] at hih ⊢
     rw [show (e.Kind == 8) = true from beq_iff_eq.2 h8] at hih ⊢
     cases ht : (truthOf (Xpr.V ar[i]) == 0) with
     | true =>
      rw [eq_of_beq ht]
      rfl
     | false => exact hih
    ·
     rw [bne_false h8] at hih ⊢
     by_cases h9 : e.Kind = 9
     ·
      rw [show (e.Kind == 9) = true from beq_iff_eq.2 h9] at hih ⊢
      cases ht : (truthOf (Xpr.V ar[i]) == 2) with
      | true =>
       rw [eq_of_beq ht]
       rfl
      | false => exact hih
     ·
      rw [show (e.Kind == 9) = false from beq_eq_false_iff_ne.2 h9] at hih ⊢
      exact hih
  ·
   rw [decide_eq_false (by omega), cond_false, List.drop_of_length_le (by omega)]
   cases (e.Kind == 8) <;> cases (e.Kind == 9) <;> rfl

theorem value_evalE (e : Xpr) (row : List Val) : value e row = evalExpr e row := (eval_eq _ e row).symm

theorem folded_eq : ∀ (f : Nat) (e : Xpr), folded_r f e = foldP f e := by
 intro f
 induction f with
 | zero => intro e; rfl
 | succ f ih =>
  intro e
  unfold folded_r foldP Go.Am.andThen
  have hm : e.Kids.map (folded_r f) = e.Kids.map (foldP f) := List.map_congr_left fun x _ => ih x
  by_cases h0 : e.Kids.length = 0
  ·
   rw [h0, Xpr.eta]
   show icopied e = e
   unfold icopied icopiedE
   have : e.Kids = [] := List.length_eq_zero_iff.1 h0
   rw [← this, Xpr.eta]
  ·
   rw [show (((List.length (Xpr.Kids e) : Nat) : Int) == 0) = false from beq_eq_false_iff_ne.2 (by omega), show (e.Kids.length == 0) = false from beq_eq_false_iff_ne.2 h0, cond_false, cond_false]
   rw [folded_l0_eq _ _ _ _ _ _ (by omega) (List.length_replicate) (Nat.zero_le _), List.drop_zero, hm, List.take_zero, List.nil_append, Nat.zero_add]
   simp only
   rw [folded_l1_eq _ _ _ _ _ (by omega), List.drop_zero, Xpr.eta, value_evalE]
   unfold foldStep
   have ha : (((List.countP (fun x => x.Kind == 2) (e.Kids.map (foldP f)) : Nat) : Int) == ((List.length (e.Kids.map (foldP f)) : Nat) : Int)) = (e.Kids.map (foldP f)).all (fun x => x.Kind == 2) := by
    rw [Bool.eq_iff_iff, List.all_eq_true, ← List.countP_eq_length, beq_iff_eq]
    omega
   rw [ha]
   rfl

theorem folded_out {e : Xpr} {w0 : Int} {fuel : Nat} {ks : List Xpr} (hvl : VL w0 e) (h0 : ¬ e.Kids.length = 0) (hs : SizeOf.sizeOf e < fuel + 1) (h : ks = e.Kids.map (folded_r fuel)) : ∃ n, ((ks.length : Nat) : Int) = kidsOfKind e.Kind ∧ ks.length ≠ 0 ∧ ∀ i, i < ks.length → VE w0 n (ks.getD i Xpr.zero) :=
 fold_out hvl h0 hs (h.trans (List.map_congr_left fun x _ => (folded_eq fuel x).trans (fold_eq fuel x).symm))

theorem folded_okn (fuel : Nat) : FnOK Try.prog 100 (folded_spn fuel) := by
 induction fuel with
 | zero => exact FnOK.never Try.func100 (by kernel_rfl) rfl (fun _ h => absurd h.2 (Nat.not_lt_zero _))
 | succ fuel ih => ?_
 have hC : CtxOK Try.prog { (mkCtx tyL [(100, (folded_spn fuel)), (132, icopied_sp), (133, iconstantO_sp), (134, value_sp), (135, truthOf_sp), (136, truthValue_sp)]) with deep := true } := CtxOK.deepen (CtxOK.cons ih (CtxOK.cons icopied_ok (CtxOK.cons iconstantO_ok (CtxOK.cons value_ok (CtxOK.cons truthOf_ok (CtxOK.cons truthValue_ok (CtxOK.nil tyOK)))))))
 have hM : Try.prog.follows .mixedOrders = true := Try.checked.mixed
 refine FnOK.of_body Try.func100 (by kernel_rfl) rfl (C := { (mkCtx tyL [(100, (folded_spn fuel)), (132, icopied_sp), (133, iconstantO_sp), (134, value_sp), (135, truthOf_sp), (136, truthValue_sp)]) with deep := true }) hC.ty (by kernel_rfl) ?_
 intro (e : Xpr) hwf hpre E
 have hpre : (∃ w, VL w e) ∧ SizeOf.sizeOf e < fuel + 1 := hpre
 have hw_e : Wf ⟨(.named 1), (e : Xpr)⟩ := hwf _ (List.Mem.head _)
 obtain ⟨hr_e_Kind, hr_e_Col, hl_e_Kids⟩ := Xpr.wfl hw_e
 obtain ⟨w0, hvl⟩ := hpre.1
 have hk2 := hvl.kids2
 have hsz := hpre.2
 have e0 : folded_r (fuel + 1) e = folded_r (fuel + 1) e := rfl
 refine AW.seq (AW.r1 hC [0, 2] [8] ⟨[(0, sR3 e), (2, .ref 8 1 0)], [(8, .box 1 [sI 0, sI 0, sB false, sI 0, .nilsl])]⟩ ?_)
 refine AW.seq (AW.seq (AW.r1 hC [0, 2, 14] [8] ⟨[(0, sR3 e), (2, .ref 8 1 0), (14, sB (((List.length (Xpr.Kids e) : Nat) : Int) == 0))], [(8, .box 1 [sI 0, sI 0, sB false, sI 0, .nilsl])]⟩ ?_))
 refine AW.cd (((List.length (Xpr.Kids e) : Nat) : Int) == 0) ?_ ?_
 ·
  intro h1
  have h1q := (Go.Am.beq_pos h1)
  have e2 := e0.trans (Go.Am.bif_t h1)
  refine AW.seq (AW.r0 hC [2] [8, 64] ⟨[(2, .ref 8 1 0)], [(8, .box 1 [sI (Xpr.Kind (icopied e)), sI (Xpr.Col (icopied e)), sB (Val.Null (Xpr.V (icopied e))), sI (Val.N (Xpr.V (icopied e))), .tr 64 1]), (64, .tree 1 (.named 1) ((Xpr.Kids (icopied e)) : List Xpr))]⟩ [(List.length (Xpr.Kids e) = 0)] ?_ ?_)
  ·
   refine ⟨?_, trivial⟩
   ·
    omega
  exact AW.ret (AW.retE (β := Xpr) (fun v => [⟨(.named 1), v⟩]) (fun v => []) (v := (Xpr.mk (Xpr.Kind (icopied e)) (Xpr.Col (icopied e)) (Xpr.V (icopied e)) (Xpr.Kids (icopied e)))) e2 (by kernel_rfl) rfl rfl)
 ·
  intro h3
  have h3q := (Go.Am.beq_neg h3)
  have e4 := e0.trans (Go.Am.bif_f h3)
  refine AW.kp [0, 2] [8] ⟨[(0, sR3 e), (2, .ref 8 1 0)], [(8, .box 1 [sI 0, sI 0, sB false, sI 0, .nilsl])]⟩ ?_
  refine AW.skip (AW.seq (AW.d0 hC hM [0, 2, 3] [8, 12, 104] ⟨[(0, sR3 e), (2, .ref 8 1 0), (3, .ref 12 1 0)], [(8, .box 1 [sI 0, sI 0, sB false, sI 0, .nilsl]), (12, .box 1 [sI (Xpr.Kind e), sI 0, sB false, sI 0, .tr 104 1]), (104, .tree 1 (.named 1) ((List.replicate (List.length (Xpr.Kids e)) Xpr.zero : List Xpr) : List Xpr))]⟩ [(0 ≤ ((List.length (Xpr.Kids e) : Nat) : Int) ∧ ((List.length (Xpr.Kids e) : Nat) : Int) ≤ ((List.length (Xpr.Kids e) : Nat) : Int) ∧ ((List.length (Xpr.Kids e) : Nat) : Int) ≤ 4294967296)] ?_ ?_))
  ·
   refine ⟨?_, trivial⟩
   ·
    omega
  refine AW.seq (AW.r1 hC [0, 2, 3, 4] [8, 12, 104] ⟨[(0, sR3 e), (2, .ref 8 1 0), (3, .ref 12 1 0), (4, sI 0)], [(8, .box 1 [sI 0, sI 0, sB false, sI 0, .nilsl]), (12, .box 1 [sI (Xpr.Kind e), sI 0, sB false, sI 0, .tr 104 1]), (104, .tree 1 (.named 1) ((List.replicate (List.length (Xpr.Kids e)) Xpr.zero : List Xpr) : List Xpr))]⟩ ?_)
  refine AW.seq (AW.seq (AW.r1 hC [0, 2, 3, 4, 32, 33] [8, 12, 104] ⟨[(0, sR3 e), (2, .ref 8 1 0), (3, .ref 12 1 0), (4, sI 0), (32, sI ((List.length (Xpr.Kids e) : Nat) : Int)), (33, sI 0)], [(8, .box 1 [sI 0, sI 0, sB false, sI 0, .nilsl]), (12, .box 1 [sI (Xpr.Kind e), sI 0, sB false, sI 0, .tr 104 1]), (104, .tree 1 (.named 1) ((List.replicate (List.length (Xpr.Kids e)) Xpr.zero : List Xpr) : List Xpr))]⟩ ?_))
  refine AW.cutQ (α := Nat × (List Xpr)) (fun x => ⟨[(2, .ref 8 1 0), (3, .ref 12 1 0), (4, sI ((x.1 : Nat) : Int))], [(8, .box 1 [sI 0, sI 0, sB false, sI 0, .nilsl]), (12, .box 1 [sI (Xpr.Kind e), sI 0, sB false, sI 0, .tr 104 1]), (104, .tree 1 (.named 1) (x.2 : List Xpr))]⟩) (fun x => ((x.2 = List.map (folded_r fuel) (Xpr.Kids e) ∧ x.1 = List.countP (fun x => x.Kind == 2) x.2) ∧ List.length x.2 = List.length (Xpr.Kids e)) ∧ (folded_l0 (folded_r fuel) e ((List.length (Xpr.Kids e)) - 0 + 1) 0 0 (List.replicate (List.length (Xpr.Kids e)) Xpr.zero : List Xpr)) = x) ?_ ?_
  ·
   skip
   refine AW.block (AW.loop (α := Nat × Nat × (List Xpr)) (fun x => ⟨[(0, sR3 e), (2, .ref 8 1 0), (3, .ref 12 1 0), (4, sI ((x.1 : Nat) : Int)), (32, sI ((List.length (Xpr.Kids e) : Nat) : Int)), (33, sI ((x.2.1 : Nat) : Int))], [(8, .box 1 [sI 0, sI 0, sB false, sI 0, .nilsl]), (12, .box 1 [sI (Xpr.Kind e), sI 0, sB false, sI 0, .tr 104 1]), (104, .tree 1 (.named 1) (x.2.2 : List Xpr))]⟩) (fun x => (FI (folded_r fuel) (Xpr.Kids e) x.2.2 x.1 x.2.1) ∧ ∃ k, (List.length (Xpr.Kids e)) - x.2.1 < k ∧ (folded_l0 (folded_r fuel) e ((List.length (Xpr.Kids e)) - 0 + 1) 0 0 (List.replicate (List.length (Xpr.Kids e)) Xpr.zero : List Xpr)) = folded_l0 (folded_r fuel) e k x.1 x.2.1 x.2.2) (fun x => (List.length (Xpr.Kids e)) - x.2.1) (0, 0, (List.replicate (List.length (Xpr.Kids e)) Xpr.zero : List Xpr)) (by kernel_rfl) ⟨?_, _, Nat.lt_succ_self _, rfl⟩ ?_)
   ·
    show FI (folded_r fuel) (Xpr.Kids e) (List.replicate (List.length (Xpr.Kids e)) Xpr.zero : List Xpr) 0 0
    exact ⟨⟨by rw [List.take_zero, List.take_zero]; rfl, rfl⟩, ⟨Nat.zero_le _, List.length_replicate⟩, Nat.le_refl _⟩
   ·
    intro x hR
    obtain ⟨constants, v33, ar104⟩ := x
    obtain ⟨hI0, k31, hk29, e30⟩ := hR
    replace hI0 : FI (folded_r fuel) (Xpr.Kids e) ar104 constants v33 := hI0
    replace hk29 : (List.length (Xpr.Kids e)) - v33 < k31 := hk29
    obtain ⟨k31q, rfl⟩ : ∃ k, k31 = k + 1 := ⟨k31 - 1, by omega⟩
    have ha1 := hI0.2.1.1
    have ha2 := hI0.2.1.2
    have ha3 := hI0.2.2
    refine AW.seq (AW.r1 hC [0, 2, 3, 4, 32, 33, 34] [8, 12, 104] ⟨[(0, sR3 e), (2, .ref 8 1 0), (3, .ref 12 1 0), (4, sI ((constants : Nat) : Int)), (32, sI ((List.length (Xpr.Kids e) : Nat) : Int)), (33, sI ((v33 : Nat) : Int)), (34, sB (decide (((v33 : Nat) : Int) < ((List.length (Xpr.Kids e) : Nat) : Int))))], [(8, .box 1 [sI 0, sI 0, sB false, sI 0, .nilsl]), (12, .box 1 [sI (Xpr.Kind e), sI 0, sB false, sI 0, .tr 104 1]), (104, .tree 1 (.named 1) (ar104 : List Xpr))]⟩ ?_)
    refine AW.seq (AW.cd (decide (((v33 : Nat) : Int) < ((List.length (Xpr.Kids e) : Nat) : Int))) ?_ ?_)
    ·
     intro h32
     have h32q := (of_decide_eq_true h32)
     have e33 := e30.trans (Go.Am.bif_t h32)
     refine AW.kp [0, 2, 3, 4, 32, 33] [8, 12, 104] ⟨[(0, sR3 e), (2, .ref 8 1 0), (3, .ref 12 1 0), (4, sI ((constants : Nat) : Int)), (32, sI ((List.length (Xpr.Kids e) : Nat) : Int)), (33, sI ((v33 : Nat) : Int))], [(8, .box 1 [sI 0, sI 0, sB false, sI 0, .nilsl]), (12, .box 1 [sI (Xpr.Kind e), sI 0, sB false, sI 0, .tr 104 1]), (104, .tree 1 (.named 1) (ar104 : List Xpr))]⟩ ?_
     refine AW.skip (AW.seq (AW.block (AW.seq (AW.r1 hC [0, 2, 3, 4, 5, 32, 33] [8, 12, 104] ⟨[(0, sR3 e), (2, .ref 8 1 0), (3, .ref 12 1 0), (4, sI ((constants : Nat) : Int)), (5, sI ((v33 : Nat) : Int)), (32, sI ((List.length (Xpr.Kids e) : Nat) : Int)), (33, sI ((v33 : Nat) : Int))], [(8, .box 1 [sI 0, sI 0, sB false, sI 0, .nilsl]), (12, .box 1 [sI (Xpr.Kind e), sI 0, sB false, sI 0, .tr 104 1]), (104, .tree 1 (.named 1) (ar104 : List Xpr))]⟩ ?_))))
     refine AW.seq (AW.d0 hC hM [0, 2, 3, 4, 5, 32, 33] [8, 12, 104] ⟨[(0, sR3 e), (2, .ref 8 1 0), (3, .ref 12 1 0), (4, sI ((constants : Nat) : Int)), (5, sI ((v33 : Nat) : Int)), (32, sI ((List.length (Xpr.Kids e) : Nat) : Int)), (33, sI ((v33 : Nat) : Int))], [(8, .box 1 [sI 0, sI 0, sB false, sI 0, .nilsl]), (12, .box 1 [sI (Xpr.Kind e), sI 0, sB false, sI 0, .tr 104 1]), (104, .tree 1 (.named 1) ((List.set ar104 v33 (Xpr.mk (Xpr.Kind ((folded_r fuel) (List.getD (Xpr.Kids e) v33 Xpr.zero))) (Xpr.Col ((folded_r fuel) (List.getD (Xpr.Kids e) v33 Xpr.zero))) (Xpr.V ((folded_r fuel) (List.getD (Xpr.Kids e) v33 Xpr.zero))) (Xpr.Kids ((folded_r fuel) (List.getD (Xpr.Kids e) v33 Xpr.zero))))) : List Xpr))]⟩ [IX ((v33 : Nat) : Int) ((List.length (Xpr.Kids e) : Nat) : Int), ((∃ w, VL w (List.getD (Xpr.Kids e) v33 Xpr.zero)) ∧ SizeOf.sizeOf (List.getD (Xpr.Kids e) v33 Xpr.zero) < fuel), IX ((v33 : Nat) : Int) ((List.length ar104 : Nat) : Int)] ?_ ?_)
     ·
      refine ⟨?_, ?_, ?_, trivial⟩
      ·
       refine IX.of ?_
       omega
      ·
       exact ⟨⟨w0, hvl.kid (by omega)⟩, Nat.lt_of_lt_of_le (kid_lt (by omega)) (Nat.le_of_lt_succ hpre.2)⟩
      ·
       refine IX.of ?_
       omega
     refine AW.seq (AW.r0 hC [0, 2, 3, 4, 32, 33, 53] [8, 12, 104] ⟨[(0, sR3 e), (2, .ref 8 1 0), (3, .ref 12 1 0), (4, sI ((constants : Nat) : Int)), (32, sI ((List.length (Xpr.Kids e) : Nat) : Int)), (33, sI ((v33 : Nat) : Int)), (53, sB ((Xpr.Kind (List.getD (List.set ar104 v33 (Xpr.mk (Xpr.Kind ((folded_r fuel) (List.getD (Xpr.Kids e) v33 Xpr.zero))) (Xpr.Col ((folded_r fuel) (List.getD (Xpr.Kids e) v33 Xpr.zero))) (Xpr.V ((folded_r fuel) (List.getD (Xpr.Kids e) v33 Xpr.zero))) (Xpr.Kids ((folded_r fuel) (List.getD (Xpr.Kids e) v33 Xpr.zero))))) v33 Xpr.zero)) == 2))], [(8, .box 1 [sI 0, sI 0, sB false, sI 0, .nilsl]), (12, .box 1 [sI (Xpr.Kind e), sI 0, sB false, sI 0, .tr 104 1]), (104, .tree 1 (.named 1) ((List.set ar104 v33 (Xpr.mk (Xpr.Kind ((folded_r fuel) (List.getD (Xpr.Kids e) v33 Xpr.zero))) (Xpr.Col ((folded_r fuel) (List.getD (Xpr.Kids e) v33 Xpr.zero))) (Xpr.V ((folded_r fuel) (List.getD (Xpr.Kids e) v33 Xpr.zero))) (Xpr.Kids ((folded_r fuel) (List.getD (Xpr.Kids e) v33 Xpr.zero))))) : List Xpr))]⟩ [IX ((v33 : Nat) : Int) ((List.length (List.set ar104 v33 (Xpr.mk (Xpr.Kind ((folded_r fuel) (List.getD (Xpr.Kids e) v33 Xpr.zero))) (Xpr.Col ((folded_r fuel) (List.getD (Xpr.Kids e) v33 Xpr.zero))) (Xpr.V ((folded_r fuel) (List.getD (Xpr.Kids e) v33 Xpr.zero))) (Xpr.Kids ((folded_r fuel) (List.getD (Xpr.Kids e) v33 Xpr.zero))))) : Nat) : Int)] ?_ ?_)
     ·
      refine ⟨?_, trivial⟩
      ·
       refine IX.of ?_
       simp only [List.length_set]; omega
     refine AW.cd ((Xpr.Kind (List.getD (List.set ar104 v33 (Xpr.mk (Xpr.Kind ((folded_r fuel) (List.getD (Xpr.Kids e) v33 Xpr.zero))) (Xpr.Col ((folded_r fuel) (List.getD (Xpr.Kids e) v33 Xpr.zero))) (Xpr.V ((folded_r fuel) (List.getD (Xpr.Kids e) v33 Xpr.zero))) (Xpr.Kids ((folded_r fuel) (List.getD (Xpr.Kids e) v33 Xpr.zero))))) v33 Xpr.zero)) == 2) ?_ ?_
     ·
      intro h34
      have h34q := (Go.Am.beq_pos h34)
      have e35 := e33.trans (Go.Am.bif_t h34)
      refine AW.r0 hC [0, 2, 3, 4, 32, 33] [8, 12, 104] ⟨[(0, sR3 e), (2, .ref 8 1 0), (3, .ref 12 1 0), (4, sI ((constants + 1 : Nat) : Int)), (32, sI ((List.length (Xpr.Kids e) : Nat) : Int)), (33, sI ((v33 : Nat) : Int))], [(8, .box 1 [sI 0, sI 0, sB false, sI 0, .nilsl]), (12, .box 1 [sI (Xpr.Kind e), sI 0, sB false, sI 0, .tr 104 1]), (104, .tree 1 (.named 1) ((List.set ar104 v33 (Xpr.mk (Xpr.Kind ((folded_r fuel) (List.getD (Xpr.Kids e) v33 Xpr.zero))) (Xpr.Col ((folded_r fuel) (List.getD (Xpr.Kids e) v33 Xpr.zero))) (Xpr.V ((folded_r fuel) (List.getD (Xpr.Kids e) v33 Xpr.zero))) (Xpr.Kids ((folded_r fuel) (List.getD (Xpr.Kids e) v33 Xpr.zero))))) : List Xpr))]⟩ [R64 ((constants + 1 : Nat) : Int)] ?_ ?_
      ·
       refine ⟨?_, trivial⟩
       ·
        refine R64.of ?_
        omega
      refine AW.r0 hC [0, 2, 3, 4, 32, 33] [8, 12, 104] ⟨[(0, sR3 e), (2, .ref 8 1 0), (3, .ref 12 1 0), (4, sI ((constants + 1 : Nat) : Int)), (32, sI ((List.length (Xpr.Kids e) : Nat) : Int)), (33, sI ((v33 + 1 : Nat) : Int))], [(8, .box 1 [sI 0, sI 0, sB false, sI 0, .nilsl]), (12, .box 1 [sI (Xpr.Kind e), sI 0, sB false, sI 0, .tr 104 1]), (104, .tree 1 (.named 1) ((List.set ar104 v33 (Xpr.mk (Xpr.Kind ((folded_r fuel) (List.getD (Xpr.Kids e) v33 Xpr.zero))) (Xpr.Col ((folded_r fuel) (List.getD (Xpr.Kids e) v33 Xpr.zero))) (Xpr.V ((folded_r fuel) (List.getD (Xpr.Kids e) v33 Xpr.zero))) (Xpr.Kids ((folded_r fuel) (List.getD (Xpr.Kids e) v33 Xpr.zero))))) : List Xpr))]⟩ [R64 ((v33 + 1 : Nat) : Int)] ?_ ?_
      ·
       refine ⟨?_, trivial⟩
       ·
        refine R64.of ?_
        omega
      refine AW.back (x := (constants, v33, ar104)) (constants + 1, v33 + 1, (List.set ar104 v33 (Xpr.mk (Xpr.Kind ((folded_r fuel) (List.getD (Xpr.Kids e) v33 Xpr.zero))) (Xpr.Col ((folded_r fuel) (List.getD (Xpr.Kids e) v33 Xpr.zero))) (Xpr.V ((folded_r fuel) (List.getD (Xpr.Kids e) v33 Xpr.zero))) (Xpr.Kids ((folded_r fuel) (List.getD (Xpr.Kids e) v33 Xpr.zero)))))) (by kernel_rfl) ⟨?_, k31q, ?_, e35⟩ ?_
      ·
       show FI (folded_r fuel) (Xpr.Kids e) (List.set ar104 v33 (Xpr.mk (Xpr.Kind ((folded_r fuel) (List.getD (Xpr.Kids e) v33 Xpr.zero))) (Xpr.Col ((folded_r fuel) (List.getD (Xpr.Kids e) v33 Xpr.zero))) (Xpr.V ((folded_r fuel) (List.getD (Xpr.Kids e) v33 Xpr.zero))) (Xpr.Kids ((folded_r fuel) (List.getD (Xpr.Kids e) v33 Xpr.zero))))) (constants + 1) (v33 + 1)
       simp only [Xpr.eta] at *
       exact hI0.yes (by omega) (by assumption)
      ·
       show (List.length (Xpr.Kids e)) - (v33 + 1) < k31q
       omega
      ·
       show (List.length (Xpr.Kids e)) - (v33 + 1) < (List.length (Xpr.Kids e)) - v33
       omega
     ·
      intro h36
      have h36q := (Go.Am.beq_neg h36)
      have e37 := e33.trans (Go.Am.bif_f h36)
      refine AW.kp [0, 2, 3, 4, 32, 33] [8, 12, 104] ⟨[(0, sR3 e), (2, .ref 8 1 0), (3, .ref 12 1 0), (4, sI ((constants : Nat) : Int)), (32, sI ((List.length (Xpr.Kids e) : Nat) : Int)), (33, sI ((v33 : Nat) : Int))], [(8, .box 1 [sI 0, sI 0, sB false, sI 0, .nilsl]), (12, .box 1 [sI (Xpr.Kind e), sI 0, sB false, sI 0, .tr 104 1]), (104, .tree 1 (.named 1) ((List.set ar104 v33 (Xpr.mk (Xpr.Kind ((folded_r fuel) (List.getD (Xpr.Kids e) v33 Xpr.zero))) (Xpr.Col ((folded_r fuel) (List.getD (Xpr.Kids e) v33 Xpr.zero))) (Xpr.V ((folded_r fuel) (List.getD (Xpr.Kids e) v33 Xpr.zero))) (Xpr.Kids ((folded_r fuel) (List.getD (Xpr.Kids e) v33 Xpr.zero))))) : List Xpr))]⟩ ?_
      refine AW.skip (AW.r0 hC [0, 2, 3, 4, 32, 33] [8, 12, 104] ⟨[(0, sR3 e), (2, .ref 8 1 0), (3, .ref 12 1 0), (4, sI ((constants : Nat) : Int)), (32, sI ((List.length (Xpr.Kids e) : Nat) : Int)), (33, sI ((v33 + 1 : Nat) : Int))], [(8, .box 1 [sI 0, sI 0, sB false, sI 0, .nilsl]), (12, .box 1 [sI (Xpr.Kind e), sI 0, sB false, sI 0, .tr 104 1]), (104, .tree 1 (.named 1) ((List.set ar104 v33 (Xpr.mk (Xpr.Kind ((folded_r fuel) (List.getD (Xpr.Kids e) v33 Xpr.zero))) (Xpr.Col ((folded_r fuel) (List.getD (Xpr.Kids e) v33 Xpr.zero))) (Xpr.V ((folded_r fuel) (List.getD (Xpr.Kids e) v33 Xpr.zero))) (Xpr.Kids ((folded_r fuel) (List.getD (Xpr.Kids e) v33 Xpr.zero))))) : List Xpr))]⟩ [R64 ((v33 + 1 : Nat) : Int)] ?_ ?_)
      ·
       refine ⟨?_, trivial⟩
       ·
        refine R64.of ?_
        omega
      refine AW.back (x := (constants, v33, ar104)) (constants, v33 + 1, (List.set ar104 v33 (Xpr.mk (Xpr.Kind ((folded_r fuel) (List.getD (Xpr.Kids e) v33 Xpr.zero))) (Xpr.Col ((folded_r fuel) (List.getD (Xpr.Kids e) v33 Xpr.zero))) (Xpr.V ((folded_r fuel) (List.getD (Xpr.Kids e) v33 Xpr.zero))) (Xpr.Kids ((folded_r fuel) (List.getD (Xpr.Kids e) v33 Xpr.zero)))))) (by kernel_rfl) ⟨?_, k31q, ?_, e37⟩ ?_
      ·
       show FI (folded_r fuel) (Xpr.Kids e) (List.set ar104 v33 (Xpr.mk (Xpr.Kind ((folded_r fuel) (List.getD (Xpr.Kids e) v33 Xpr.zero))) (Xpr.Col ((folded_r fuel) (List.getD (Xpr.Kids e) v33 Xpr.zero))) (Xpr.V ((folded_r fuel) (List.getD (Xpr.Kids e) v33 Xpr.zero))) (Xpr.Kids ((folded_r fuel) (List.getD (Xpr.Kids e) v33 Xpr.zero))))) constants (v33 + 1)
       simp only [Xpr.eta] at *
       exact hI0.no (by omega) (by assumption)
      ·
       show (List.length (Xpr.Kids e)) - (v33 + 1) < k31q
       omega
      ·
       show (List.length (Xpr.Kids e)) - (v33 + 1) < (List.length (Xpr.Kids e)) - v33
       omega
    ·
     intro h38
     have h38q := (of_decide_eq_false h38)
     have e39 := e30.trans (Go.Am.bif_f h38)
     refine AW.kp [2, 3, 4] [8, 12, 104] ⟨[(2, .ref 8 1 0), (3, .ref 12 1 0), (4, sI ((constants : Nat) : Int))], [(8, .box 1 [sI 0, sI 0, sB false, sI 0, .nilsl]), (12, .box 1 [sI (Xpr.Kind e), sI 0, sB false, sI 0, .tr 104 1]), (104, .tree 1 (.named 1) (ar104 : List Xpr))]⟩ ?_
     refine AW.exit ?_
     refine AW.meet (constants, ar104) (by kernel_rfl) ⟨?_, e39⟩
     show (ar104 = List.map (folded_r fuel) (Xpr.Kids e) ∧ constants = List.countP (fun x => x.Kind == 2) ar104) ∧ List.length ar104 = List.length (Xpr.Kids e)
     exact hI0.out (by omega)
  ·
   intro x hR
   obtain ⟨constants, ar104⟩ := x
   obtain ⟨hJ0, e40⟩ := hR
   replace hJ0 : (ar104 = List.map (folded_r fuel) (Xpr.Kids e) ∧ constants = List.countP (fun x => x.Kind == 2) ar104) ∧ List.length ar104 = List.length (Xpr.Kids e) := hJ0
   have e41 := e4.trans (Go.Am.then_eq e40)
   refine AW.seq (AW.seq (AW.r1 hC [2, 3, 61] [8, 12, 104] ⟨[(2, .ref 8 1 0), (3, .ref 12 1 0), (61, sB (((constants : Nat) : Int) == ((List.length ar104 : Nat) : Int)))], [(8, .box 1 [sI 0, sI 0, sB false, sI 0, .nilsl]), (12, .box 1 [sI (Xpr.Kind e), sI 0, sB false, sI 0, .tr 104 1]), (104, .tree 1 (.named 1) (ar104 : List Xpr))]⟩ ?_))
   refine AW.cd (((constants : Nat) : Int) == ((List.length ar104 : Nat) : Int)) ?_ ?_
   ·
    intro h42
    have h42q := (Go.Am.beq_pos h42)
    have e43 := e41.trans (Go.Am.bif_t h42)
    refine AW.seq (AW.r0 hC [2] [8, 252] ⟨[(2, .ref 8 1 0)], [(8, .box 1 [sI (Xpr.Kind (iconstant (value (Xpr.mk (Xpr.Kind e) 0 (Val.mk false 0) ar104) ([] : List Val)))), sI (Xpr.Col (iconstant (value (Xpr.mk (Xpr.Kind e) 0 (Val.mk false 0) ar104) ([] : List Val)))), sB (Val.Null (Xpr.V (iconstant (value (Xpr.mk (Xpr.Kind e) 0 (Val.mk false 0) ar104) ([] : List Val))))), sI (Val.N (Xpr.V (iconstant (value (Xpr.mk (Xpr.Kind e) 0 (Val.mk false 0) ar104) ([] : List Val))))), .tr 252 1]), (252, .tree 1 (.named 1) ((Xpr.Kids (iconstant (value (Xpr.mk (Xpr.Kind e) 0 (Val.mk false 0) ar104) ([] : List Val)))) : List Xpr))]⟩ [(VXr ([] : List Val) (Xpr.mk (Xpr.Kind e) 0 (Val.mk false 0) ar104)), (True)] ?_ ?_)
    ·
     refine ⟨?_, ?_, trivial⟩
     ·
      obtain ⟨n, o1, o2, o3⟩ := folded_out hvl (by omega) hsz hJ0.1.1
      exact out_vxr o1 o2 o3 (all_count hJ0.1.2 (by assumption))
     ·
      trivial
    exact AW.ret (AW.retE (β := Xpr) (fun v => [⟨(.named 1), v⟩]) (fun v => []) (v := (Xpr.mk (Xpr.Kind (iconstant (value (Xpr.mk (Xpr.Kind e) 0 (Val.mk false 0) ar104) ([] : List Val)))) (Xpr.Col (iconstant (value (Xpr.mk (Xpr.Kind e) 0 (Val.mk false 0) ar104) ([] : List Val)))) (Xpr.V (iconstant (value (Xpr.mk (Xpr.Kind e) 0 (Val.mk false 0) ar104) ([] : List Val)))) (Xpr.Kids (iconstant (value (Xpr.mk (Xpr.Kind e) 0 (Val.mk false 0) ar104) ([] : List Val)))))) e43 (by kernel_rfl) rfl rfl)
   ·
    intro h44
    have h44q := (Go.Am.beq_neg h44)
    have e45 := e41.trans (Go.Am.bif_f h44)
    refine AW.kp [2, 3] [8, 12, 104] ⟨[(2, .ref 8 1 0), (3, .ref 12 1 0)], [(8, .box 1 [sI 0, sI 0, sB false, sI 0, .nilsl]), (12, .box 1 [sI (Xpr.Kind e), sI 0, sB false, sI 0, .tr 104 1]), (104, .tree 1 (.named 1) (ar104 : List Xpr))]⟩ ?_
    refine AW.skip (AW.seq (AW.seq (AW.r1 hC [2, 3, 65, 66, 67] [8, 12, 104] ⟨[(2, .ref 8 1 0), (3, .ref 12 1 0), (65, .tr 104 1), (66, sI ((List.length ar104 : Nat) : Int)), (67, sI 0)], [(8, .box 1 [sI 0, sI 0, sB false, sI 0, .nilsl]), (12, .box 1 [sI (Xpr.Kind e), sI 0, sB false, sI 0, .tr 104 1]), (104, .tree 1 (.named 1) (ar104 : List Xpr))]⟩ ?_)))
    refine AW.cutQ (α := Unit) (fun x => ⟨[(2, .ref 8 1 0), (3, .ref 12 1 0)], [(8, .box 1 [sI 0, sI 0, sB false, sI 0, .nilsl]), (12, .box 1 [sI (Xpr.Kind e), sI 0, sB false, sI 0, .tr 104 1]), (104, .tree 1 (.named 1) (ar104 : List Xpr))]⟩) (fun x => (True) ∧ (folded_l1 e ar104 ((List.length ar104) - 0 + 1) 0) = (.inl ())) ?_ ?_
    ·
     skip
     refine AW.block (AW.loop (α := Nat) (fun x => ⟨[(2, .ref 8 1 0), (3, .ref 12 1 0), (65, .tr 104 1), (66, sI ((List.length ar104 : Nat) : Int)), (67, sI ((x : Nat) : Int))], [(8, .box 1 [sI 0, sI 0, sB false, sI 0, .nilsl]), (12, .box 1 [sI (Xpr.Kind e), sI 0, sB false, sI 0, .tr 104 1]), (104, .tree 1 (.named 1) (ar104 : List Xpr))]⟩) (fun x => (True) ∧ ∃ k, (List.length ar104) - x < k ∧ (folded_l1 e ar104 ((List.length ar104) - 0 + 1) 0) = folded_l1 e ar104 k x) (fun x => (List.length ar104) - x) 0 (by kernel_rfl) ⟨?_, _, Nat.lt_succ_self _, rfl⟩ ?_)
     ·
      show True
      exact trivial
     ·
      intro v67 hR
      obtain ⟨hI1, k87, hk85, e86⟩ := hR
      replace hI1 : True := hI1
      replace hk85 : (List.length ar104) - v67 < k87 := hk85
      obtain ⟨k87q, rfl⟩ : ∃ k, k87 = k + 1 := ⟨k87 - 1, by omega⟩
      refine AW.seq (AW.r1 hC [2, 3, 65, 66, 67, 68] [8, 12, 104] ⟨[(2, .ref 8 1 0), (3, .ref 12 1 0), (65, .tr 104 1), (66, sI ((List.length ar104 : Nat) : Int)), (67, sI ((v67 : Nat) : Int)), (68, sB (decide (((v67 : Nat) : Int) < ((List.length ar104 : Nat) : Int))))], [(8, .box 1 [sI 0, sI 0, sB false, sI 0, .nilsl]), (12, .box 1 [sI (Xpr.Kind e), sI 0, sB false, sI 0, .tr 104 1]), (104, .tree 1 (.named 1) (ar104 : List Xpr))]⟩ ?_)
      refine AW.seq (AW.cd (decide (((v67 : Nat) : Int) < ((List.length ar104 : Nat) : Int))) ?_ ?_)
      ·
       intro h88
       have h88q := (of_decide_eq_true h88)
       have e89 := e86.trans (Go.Am.bif_t h88)
       refine AW.kp [2, 3, 65, 66, 67] [8, 12, 104] ⟨[(2, .ref 8 1 0), (3, .ref 12 1 0), (65, .tr 104 1), (66, sI ((List.length ar104 : Nat) : Int)), (67, sI ((v67 : Nat) : Int))], [(8, .box 1 [sI 0, sI 0, sB false, sI 0, .nilsl]), (12, .box 1 [sI (Xpr.Kind e), sI 0, sB false, sI 0, .tr 104 1]), (104, .tree 1 (.named 1) (ar104 : List Xpr))]⟩ ?_
       refine AW.skip (AW.seq (AW.block (AW.seq (AW.r0 hC [2, 3, 7, 65, 66, 67] [8, 12, 28, 104] ⟨[(2, .ref 8 1 0), (3, .ref 12 1 0), (7, .ref 28 1 0), (65, .tr 104 1), (66, sI ((List.length ar104 : Nat) : Int)), (67, sI ((v67 : Nat) : Int))], [(8, .box 1 [sI 0, sI 0, sB false, sI 0, .nilsl]), (12, .box 1 [sI (Xpr.Kind e), sI 0, sB false, sI 0, .tr 104 1]), (28, .box 1 [sI (Xpr.Kind (List.getD ar104 v67 Xpr.zero)), sI (Xpr.Col (List.getD ar104 v67 Xpr.zero)), sB (Val.Null (Xpr.V (List.getD ar104 v67 Xpr.zero))), sI (Val.N (Xpr.V (List.getD ar104 v67 Xpr.zero))), .top]), (104, .tree 1 (.named 1) (ar104 : List Xpr))]⟩ [IX ((v67 : Nat) : Int) ((List.length ar104 : Nat) : Int)] ?_ ?_))))
       ·
        refine ⟨?_, trivial⟩
        ·
         refine IX.of ?_
         omega
       refine AW.seq (AW.seq (AW.r1 hC [2, 3, 7, 65, 66, 67, 73] [8, 12, 28, 104] ⟨[(2, .ref 8 1 0), (3, .ref 12 1 0), (7, .ref 28 1 0), (65, .tr 104 1), (66, sI ((List.length ar104 : Nat) : Int)), (67, sI ((v67 : Nat) : Int)), (73, sB ((Xpr.Kind (List.getD ar104 v67 Xpr.zero)) != 2))], [(8, .box 1 [sI 0, sI 0, sB false, sI 0, .nilsl]), (12, .box 1 [sI (Xpr.Kind e), sI 0, sB false, sI 0, .tr 104 1]), (28, .box 1 [sI (Xpr.Kind (List.getD ar104 v67 Xpr.zero)), sI (Xpr.Col (List.getD ar104 v67 Xpr.zero)), sB (Val.Null (Xpr.V (List.getD ar104 v67 Xpr.zero))), sI (Val.N (Xpr.V (List.getD ar104 v67 Xpr.zero))), .top]), (104, .tree 1 (.named 1) (ar104 : List Xpr))]⟩ ?_))
       refine AW.cd ((Xpr.Kind (List.getD ar104 v67 Xpr.zero)) != 2) ?_ ?_
       ·
        intro h90
        have h90q := (Go.Am.bne_pos h90)
        have e91 := e89.trans (Go.Am.bif_t h90)
        refine AW.kp [2, 3, 65, 66, 67] [8, 12, 104] ⟨[(2, .ref 8 1 0), (3, .ref 12 1 0), (65, .tr 104 1), (66, sI ((List.length ar104 : Nat) : Int)), (67, sI ((v67 : Nat) : Int))], [(8, .box 1 [sI 0, sI 0, sB false, sI 0, .nilsl]), (12, .box 1 [sI (Xpr.Kind e), sI 0, sB false, sI 0, .tr 104 1]), (104, .tree 1 (.named 1) (ar104 : List Xpr))]⟩ ?_
        refine AW.exit ?_
        refine AW.r0 hC [2, 3, 65, 66, 67] [8, 12, 104] ⟨[(2, .ref 8 1 0), (3, .ref 12 1 0), (65, .tr 104 1), (66, sI ((List.length ar104 : Nat) : Int)), (67, sI ((v67 + 1 : Nat) : Int))], [(8, .box 1 [sI 0, sI 0, sB false, sI 0, .nilsl]), (12, .box 1 [sI (Xpr.Kind e), sI 0, sB false, sI 0, .tr 104 1]), (104, .tree 1 (.named 1) (ar104 : List Xpr))]⟩ [R64 ((v67 + 1 : Nat) : Int)] ?_ ?_
        ·
         refine ⟨?_, trivial⟩
         ·
          refine R64.of ?_
          omega
        refine AW.back (x := v67) (v67 + 1) (by kernel_rfl) ⟨?_, k87q, ?_, e91⟩ ?_
        ·
         show True
         assumption
        ·
         show (List.length ar104) - (v67 + 1) < k87q
         omega
        ·
         show (List.length ar104) - (v67 + 1) < (List.length ar104) - v67
         omega
       ·
        intro h92
        have h92q := (Go.Am.bne_neg h92)
        have e93 := e89.trans (Go.Am.bif_f h92)
        refine AW.kp [2, 3, 7, 65, 66, 67] [8, 12, 28, 104] ⟨[(2, .ref 8 1 0), (3, .ref 12 1 0), (7, .ref 28 1 0), (65, .tr 104 1), (66, sI ((List.length ar104 : Nat) : Int)), (67, sI ((v67 : Nat) : Int))], [(8, .box 1 [sI 0, sI 0, sB false, sI 0, .nilsl]), (12, .box 1 [sI (Xpr.Kind e), sI 0, sB false, sI 0, .tr 104 1]), (28, .box 1 [sI (Xpr.Kind (List.getD ar104 v67 Xpr.zero)), sI (Xpr.Col (List.getD ar104 v67 Xpr.zero)), sB (Val.Null (Xpr.V (List.getD ar104 v67 Xpr.zero))), sI (Val.N (Xpr.V (List.getD ar104 v67 Xpr.zero))), .top]), (104, .tree 1 (.named 1) (ar104 : List Xpr))]⟩ ?_
        refine AW.skip (AW.seq (AW.r0 hC [2, 3, 8, 65, 66, 67] [8, 12, 104] ⟨[(2, .ref 8 1 0), (3, .ref 12 1 0), (8, sI (truthOf (Xpr.V (List.getD ar104 v67 Xpr.zero)))), (65, .tr 104 1), (66, sI ((List.length ar104 : Nat) : Int)), (67, sI ((v67 : Nat) : Int))], [(8, .box 1 [sI 0, sI 0, sB false, sI 0, .nilsl]), (12, .box 1 [sI (Xpr.Kind e), sI 0, sB false, sI 0, .tr 104 1]), (104, .tree 1 (.named 1) (ar104 : List Xpr))]⟩ [(True)] ?_ ?_))
        ·
         refine ⟨?_, trivial⟩
         ·
          trivial
        refine AW.seq (AW.r0 hC [2, 3, 8, 65, 66, 67, 92] [8, 12, 104] ⟨[(2, .ref 8 1 0), (3, .ref 12 1 0), (8, sI (truthOf (Xpr.V (List.getD ar104 v67 Xpr.zero)))), (65, .tr 104 1), (66, sI ((List.length ar104 : Nat) : Int)), (67, sI ((v67 : Nat) : Int)), (92, sB (bif (bif ((Xpr.Kind e) == 8) then ((truthOf (Xpr.V (List.getD ar104 v67 Xpr.zero))) == 0) else false) then true else (bif ((Xpr.Kind e) == 9) then ((truthOf (Xpr.V (List.getD ar104 v67 Xpr.zero))) == 2) else false)))], [(8, .box 1 [sI 0, sI 0, sB false, sI 0, .nilsl]), (12, .box 1 [sI (Xpr.Kind e), sI 0, sB false, sI 0, .tr 104 1]), (104, .tree 1 (.named 1) (ar104 : List Xpr))]⟩ [((((Xpr.Kind e) == 8) = true) → ((((Xpr.Kind e) == 8) = true))), ((((Xpr.Kind e) == 8) = true) → ((((Xpr.Kind e) == 8) = true))), (((bif ((Xpr.Kind e) == 8) then ((truthOf (Xpr.V (List.getD ar104 v67 Xpr.zero))) == 0) else false) = false) → (((bif ((Xpr.Kind e) == 8) then ((truthOf (Xpr.V (List.getD ar104 v67 Xpr.zero))) == 0) else false) = false))), (((bif ((Xpr.Kind e) == 8) then ((truthOf (Xpr.V (List.getD ar104 v67 Xpr.zero))) == 0) else false) = false) → (((bif ((Xpr.Kind e) == 8) then ((truthOf (Xpr.V (List.getD ar104 v67 Xpr.zero))) == 0) else false) = false))), (((bif ((Xpr.Kind e) == 8) then ((truthOf (Xpr.V (List.getD ar104 v67 Xpr.zero))) == 0) else false) = false) → (((bif ((Xpr.Kind e) == 8) then ((truthOf (Xpr.V (List.getD ar104 v67 Xpr.zero))) == 0) else false) = false))), ((((bif ((Xpr.Kind e) == 8) then ((truthOf (Xpr.V (List.getD ar104 v67 Xpr.zero))) == 0) else false) = false) ∧ (((Xpr.Kind e) == 9) = true)) → ((((bif ((Xpr.Kind e) == 8) then ((truthOf (Xpr.V (List.getD ar104 v67 Xpr.zero))) == 0) else false) = false) ∧ (((Xpr.Kind e) == 9) = true)))), (((bif ((Xpr.Kind e) == 8) then ((truthOf (Xpr.V (List.getD ar104 v67 Xpr.zero))) == 0) else false) = false) → (((bif ((Xpr.Kind e) == 8) then ((truthOf (Xpr.V (List.getD ar104 v67 Xpr.zero))) == 0) else false) = false))), (((bif ((Xpr.Kind e) == 8) then ((truthOf (Xpr.V (List.getD ar104 v67 Xpr.zero))) == 0) else false) = false) → ((((Xpr.Kind e) == 9) = true) → ((((bif ((Xpr.Kind e) == 8) then ((truthOf (Xpr.V (List.getD ar104 v67 Xpr.zero))) == 0) else false) = false) ∧ (((Xpr.Kind e) == 9) = true))))), (((bif ((Xpr.Kind e) == 8) then ((truthOf (Xpr.V (List.getD ar104 v67 Xpr.zero))) == 0) else false) = false) → (((bif ((Xpr.Kind e) == 8) then ((truthOf (Xpr.V (List.getD ar104 v67 Xpr.zero))) == 0) else false) = false)))] ?_ ?_)
        ·
         refine ⟨?_, ?_, ?_, ?_, ?_, ?_, ?_, ?_, ?_, trivial⟩
         ·
          intro g94
          have g94p0 : (Xpr.Kind e) = 8 := (Go.Am.beq_pos g94)
          assumption
         ·
          intro g95
          have g95p0 : (Xpr.Kind e) = 8 := (Go.Am.beq_pos g95)
          assumption
         ·
          intro g96
          have g96p0 : ((Xpr.Kind e) ≠ 8) ∨ ((truthOf (Xpr.V (List.getD ar104 v67 Xpr.zero))) ≠ 0) := (Or.imp (fun h => (Go.Am.beq_neg h)) (fun h => (Go.Am.beq_neg h)) (Go.Am.and_neg g96))
          assumption
         ·
          intro g97
          have g97p0 : ((Xpr.Kind e) ≠ 8) ∨ ((truthOf (Xpr.V (List.getD ar104 v67 Xpr.zero))) ≠ 0) := (Or.imp (fun h => (Go.Am.beq_neg h)) (fun h => (Go.Am.beq_neg h)) (Go.Am.and_neg g97))
          assumption
         ·
          intro g98
          have g98p0 : ((Xpr.Kind e) ≠ 8) ∨ ((truthOf (Xpr.V (List.getD ar104 v67 Xpr.zero))) ≠ 0) := (Or.imp (fun h => (Go.Am.beq_neg h)) (fun h => (Go.Am.beq_neg h)) (Go.Am.and_neg g98))
          assumption
         ·
          intro g99
          have g99p0 : ((Xpr.Kind e) ≠ 8) ∨ ((truthOf (Xpr.V (List.getD ar104 v67 Xpr.zero))) ≠ 0) := (Or.imp (fun h => (Go.Am.beq_neg h)) (fun h => (Go.Am.beq_neg h)) (Go.Am.and_neg (g99).1))
          have g99p1 : (Xpr.Kind e) = 9 := (Go.Am.beq_pos (g99).2)
          assumption
         ·
          intro g100
          have g100p0 : ((Xpr.Kind e) ≠ 8) ∨ ((truthOf (Xpr.V (List.getD ar104 v67 Xpr.zero))) ≠ 0) := (Or.imp (fun h => (Go.Am.beq_neg h)) (fun h => (Go.Am.beq_neg h)) (Go.Am.and_neg g100))
          assumption
         ·
          intro g101
          have g101p0 : ((Xpr.Kind e) ≠ 8) ∨ ((truthOf (Xpr.V (List.getD ar104 v67 Xpr.zero))) ≠ 0) := (Or.imp (fun h => (Go.Am.beq_neg h)) (fun h => (Go.Am.beq_neg h)) (Go.Am.and_neg g101))
          intro g102
          have g102p0 : (Xpr.Kind e) = 9 := (Go.Am.beq_pos g102)
          exact ⟨by assumption, by assumption⟩
         ·
          intro g103
          have g103p0 : ((Xpr.Kind e) ≠ 8) ∨ ((truthOf (Xpr.V (List.getD ar104 v67 Xpr.zero))) ≠ 0) := (Or.imp (fun h => (Go.Am.beq_neg h)) (fun h => (Go.Am.beq_neg h)) (Go.Am.and_neg g103))
          assumption
        refine AW.cd (bif (bif ((Xpr.Kind e) == 8) then ((truthOf (Xpr.V (List.getD ar104 v67 Xpr.zero))) == 0) else false) then true else (bif ((Xpr.Kind e) == 9) then ((truthOf (Xpr.V (List.getD ar104 v67 Xpr.zero))) == 2) else false)) ?_ ?_
        ·
         intro h104
         have h104q : (((Xpr.Kind e) = 8) ∧ ((truthOf (Xpr.V (List.getD ar104 v67 Xpr.zero))) = 0)) ∨ (((Xpr.Kind e) = 9) ∧ ((truthOf (Xpr.V (List.getD ar104 v67 Xpr.zero))) = 2)) := (Or.imp (fun h => (And.imp (fun h => (Go.Am.beq_pos h)) (fun h => (Go.Am.beq_pos h)) (Go.Am.and_pos h))) (fun h => (And.imp (fun h => (Go.Am.beq_pos h)) (fun h => (Go.Am.beq_pos h)) (Go.Am.and_pos h))) (Go.Am.or_pos h104))
         have e105 := e93.trans (Go.Am.bif_t h104)
         refine AW.seq (AW.r0 hC [2] [8, 380] ⟨[(2, .ref 8 1 0)], [(8, .box 1 [sI (Xpr.Kind (iconstant (truthValue (truthOf (Xpr.V (List.getD ar104 v67 Xpr.zero)))))), sI (Xpr.Col (iconstant (truthValue (truthOf (Xpr.V (List.getD ar104 v67 Xpr.zero)))))), sB (Val.Null (Xpr.V (iconstant (truthValue (truthOf (Xpr.V (List.getD ar104 v67 Xpr.zero))))))), sI (Val.N (Xpr.V (iconstant (truthValue (truthOf (Xpr.V (List.getD ar104 v67 Xpr.zero))))))), .tr 380 1]), (380, .tree 1 (.named 1) ((Xpr.Kids (iconstant (truthValue (truthOf (Xpr.V (List.getD ar104 v67 Xpr.zero)))))) : List Xpr))]⟩ [(True), (True)] ?_ ?_)
         ·
          refine ⟨?_, ?_, trivial⟩
          ·
           trivial
          ·
           trivial
         refine AW.ret ?_
         have e106 := e45.trans (Go.Am.elim_r e105)
         exact AW.retE (β := Xpr) (fun v => [⟨(.named 1), v⟩]) (fun v => []) (v := (Xpr.mk (Xpr.Kind (iconstant (truthValue (truthOf (Xpr.V (List.getD ar104 v67 Xpr.zero)))))) (Xpr.Col (iconstant (truthValue (truthOf (Xpr.V (List.getD ar104 v67 Xpr.zero)))))) (Xpr.V (iconstant (truthValue (truthOf (Xpr.V (List.getD ar104 v67 Xpr.zero)))))) (Xpr.Kids (iconstant (truthValue (truthOf (Xpr.V (List.getD ar104 v67 Xpr.zero)))))))) e106 (by kernel_rfl) rfl rfl
        ·
         intro h107
         have h107q : (((Xpr.Kind e) ≠ 8) ∨ ((truthOf (Xpr.V (List.getD ar104 v67 Xpr.zero))) ≠ 0)) ∧ (((Xpr.Kind e) ≠ 9) ∨ ((truthOf (Xpr.V (List.getD ar104 v67 Xpr.zero))) ≠ 2)) := (And.imp (fun h => (Or.imp (fun h => (Go.Am.beq_neg h)) (fun h => (Go.Am.beq_neg h)) (Go.Am.and_neg h))) (fun h => (Or.imp (fun h => (Go.Am.beq_neg h)) (fun h => (Go.Am.beq_neg h)) (Go.Am.and_neg h))) (Go.Am.or_neg h107))
         have e108 := e93.trans (Go.Am.bif_f h107)
         refine AW.kp [2, 3, 65, 66, 67] [8, 12, 104] ⟨[(2, .ref 8 1 0), (3, .ref 12 1 0), (65, .tr 104 1), (66, sI ((List.length ar104 : Nat) : Int)), (67, sI ((v67 : Nat) : Int))], [(8, .box 1 [sI 0, sI 0, sB false, sI 0, .nilsl]), (12, .box 1 [sI (Xpr.Kind e), sI 0, sB false, sI 0, .tr 104 1]), (104, .tree 1 (.named 1) (ar104 : List Xpr))]⟩ ?_
         refine AW.skip (AW.r0 hC [2, 3, 65, 66, 67] [8, 12, 104] ⟨[(2, .ref 8 1 0), (3, .ref 12 1 0), (65, .tr 104 1), (66, sI ((List.length ar104 : Nat) : Int)), (67, sI ((v67 + 1 : Nat) : Int))], [(8, .box 1 [sI 0, sI 0, sB false, sI 0, .nilsl]), (12, .box 1 [sI (Xpr.Kind e), sI 0, sB false, sI 0, .tr 104 1]), (104, .tree 1 (.named 1) (ar104 : List Xpr))]⟩ [R64 ((v67 + 1 : Nat) : Int)] ?_ ?_)
         ·
          refine ⟨?_, trivial⟩
          ·
           refine R64.of ?_
           omega
         refine AW.back (x := v67) (v67 + 1) (by kernel_rfl) ⟨?_, k87q, ?_, e108⟩ ?_
         ·
          show True
          assumption
         ·
          show (List.length ar104) - (v67 + 1) < k87q
          omega
         ·
          show (List.length ar104) - (v67 + 1) < (List.length ar104) - v67
          omega
      ·
       intro h109
       have h109q := (of_decide_eq_false h109)
       have e110 := e86.trans (Go.Am.bif_f h109)
       refine AW.kp [2, 3] [8, 12, 104] ⟨[(2, .ref 8 1 0), (3, .ref 12 1 0)], [(8, .box 1 [sI 0, sI 0, sB false, sI 0, .nilsl]), (12, .box 1 [sI (Xpr.Kind e), sI 0, sB false, sI 0, .tr 104 1]), (104, .tree 1 (.named 1) (ar104 : List Xpr))]⟩ ?_
       refine AW.exit ?_
       refine AW.meet () (by kernel_rfl) ⟨?_, e110⟩
       show True
       assumption
    ·
     intro x hR
     obtain ⟨hJ1, e111⟩ := hR
     replace hJ1 : True := hJ1
     have e112 := e45.trans (Go.Am.elim_l e111)
     refine AW.seq (AW.r1 hC [2] [8, 104] ⟨[(2, .ref 8 1 0)], [(8, .box 1 [sI (Xpr.Kind e), sI 0, sB false, sI 0, .tr 104 1]), (104, .tree 1 (.named 1) (ar104 : List Xpr))]⟩ ?_)
     exact AW.ret (AW.retE (β := Xpr) (fun v => [⟨(.named 1), v⟩]) (fun v => []) (v := (Xpr.mk (Xpr.Kind e) 0 (Val.mk false 0) ar104)) e112 (by kernel_rfl) rfl rfl)

theorem folded_fu : AllTV (folded_sp.ps.map PK.ty) (fun tvs => folded_sp.pre tvs → ∃ k, (folded_spn k).pre tvs ∧ (folded_spn k).fn tvs = folded_sp.fn tvs ∧ (folded_spn k).bx tvs = folded_sp.bx tvs) :=
 (fun (e : Xpr) h => ⟨SizeOf.sizeOf e + 1, (show (∃ w, VL w e) ∧ SizeOf.sizeOf e < SizeOf.sizeOf e + 1 from ⟨h, Nat.lt_succ_self _⟩), (show (folded_spn (SizeOf.sizeOf e + 1)).fn [⟨(.named 1), (e : Xpr)⟩] = ([⟨(.named 1), (folded_r (SizeOf.sizeOf e + 1) e)⟩] : List TV) from by kernel_rfl).trans (show ([⟨(.named 1), (folded_r (SizeOf.sizeOf e + 1) e)⟩] : List TV) = folded_sp.fn [⟨(.named 1), (e : Xpr)⟩] from by kernel_rfl), by kernel_rfl⟩)

theorem folded_ok : FnOK Try.prog 100 folded_sp := FnOK.of_fuel folded_okn (fun _ => rfl) (fun _ => rfl) (AllTV.get folded_fu)

end
end Go.Proofs.Ytodcdgolcbdkgaa
