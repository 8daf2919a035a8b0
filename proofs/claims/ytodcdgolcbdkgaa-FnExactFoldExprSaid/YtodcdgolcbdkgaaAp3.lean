/-
  A part of the proof of this claim (Ap3): what functions of the program compute, and plain facts of that. No conditions.
-/
import Derived.Test.YtodcdgolcbdkgaaAp2
import Derived.Test.YtodcdgolcbdkgaaAnL
set_option linter.all false
namespace Go.Proofs.Ytodcdgolcbdkgaa
open Go Go.Am
noncomputable section

theorem loop_iff (L : Nat → Nat → Unit ⊕ Bool) (n : Nat) (ok : Nat → Bool) (r : Bool)
  (hS : ∀ k i, L (k + 1) i = bif decide (((i : Nat) : Int) < ((n : Nat) : Int)) then (bif !(ok i) then .inr false else L k (i + 1)) else .inl ()) :
  Sum.elim (fun _ => r) (fun r => r) (L (n - 0 + 1) 0) = true ↔ (r = true ∧ ∀ j, j < n → ok j = true) := by
 rcases all_loop L n (fun i => !(ok i)) hS (n - 0 + 1) 0 (by omega) with ⟨h1, h2⟩ | ⟨h1, j, h2, h3, h4⟩
 ·
  rw [h1]
  simp only [Sum.elim_inl]
  exact ⟨fun h => ⟨h, fun j hj => not_neg (h2 j (by omega) hj)⟩, fun h => h.1⟩
 ·
  rw [h1]
  simp only [Sum.elim_inr, Bool.false_eq_true, false_iff]
  rintro ⟨_, h⟩
  rw [h j h3] at h4
  cases h4

structure Node (w : Int) (e : Xpr) : Prop where
 kids : ((List.length e.Kids : Nat) : Int) = kidsOfKind e.Kind
 col : e.Kind = 1 → 0 ≤ e.Col ∧ e.Col < w
 nocol : e.Kind ≠ 1 → e.Col = 0
 val : e.Kind = 2 → VV e.V
 noval : e.Kind ≠ 2 → e.V = Val.zero

def VE (w : Int) : Nat → Xpr → Prop
 | 0, e => Node w e ∧ e.Kids.length = 0
 | l + 1, e => Node w e ∧ ∀ i, i < e.Kids.length → VE w l (e.Kids.getD i Xpr.zero)

theorem VE.node {w : Int} {l : Nat} {e : Xpr} (h : VE w l e) : Node w e := by
 cases l with
 | zero => exact h.1
 | succ l => exact h.1

theorem isZ_iff {v : Val} : (bif v.Null == false then (bif v.N == 0 then true else false) else false) = true ↔ v = Val.zero := by
 obtain ⟨a, b⟩ := v
 cases a with
 | true => simp [Val.zero]
 | false => simp [Val.zero]

theorem VE_iff {w : Int} {l : Nat} {e : Xpr} : VE w l e ↔ (Node w e ∧ (0 < e.Kids.length → 0 < l)) ∧ ∀ i, i < e.Kids.length → VE w (l - 1) (e.Kids.getD i Xpr.zero) := by
 cases l with
 | zero => exact ⟨fun h => ⟨⟨h.1, fun hk => by have := h.2; omega⟩, fun i hi => by have := h.2; omega⟩, fun h => ⟨h.1.1, by have := h.1.2; omega⟩⟩
 | succ l => exact ⟨fun h => ⟨⟨h.1, fun _ => by omega⟩, h.2⟩, fun h => ⟨h.1.1, h.2⟩⟩

theorem VE.kid {w : Int} {l : Nat} {e : Xpr} (h : VE w l e) {i : Nat} (hi : i < e.Kids.length) : ∃ l', VE w l' (e.Kids.getD i Xpr.zero) := ⟨l - 1, (VE_iff.1 h).2 i hi⟩

theorem bif_false_iff {c r : Bool} : (bif c then false else r) = true ↔ (¬ c = true ∧ r = true) := by cases c <;> simp

theorem Node_iff {w : Int} {e : Xpr} : Node w e ↔ ((List.length e.Kids : Nat) : Int) = kidsOfKind e.Kind ∧ (e.Kind = 1 → 0 ≤ e.Col ∧ e.Col < w) ∧ (e.Kind ≠ 1 → e.Col = 0) ∧ (e.Kind = 2 → VV e.V) ∧ (e.Kind ≠ 2 → e.V = Val.zero) :=
 ⟨fun ⟨a, b, c, d, e⟩ => ⟨a, b, c, d, e⟩, fun ⟨a, b, c, d, e⟩ => ⟨a, b, c, d, e⟩⟩

theorem validBelow_iff {w : Int} : ∀ (f : Nat) (e : Xpr) (l : Nat), SizeOf.sizeOf e < f → (validBelow_r f e w (l : Int) = true ↔ VE w l e) := by
 intro f
 induction f with
 | zero => intro e l h; omega
 | succ f ih =>
  intro e l hf
  unfold validBelow_r
  rw [bif_false_iff, bif_false_iff, bif_false_iff, loop_iff (validBelow_l0 (validBelow_r f) e w l) e.Kids.length (fun i => validBelow_r f (List.getD e.Kids i Xpr.zero) w ((l : Int) - 1)) true (fun k i => rfl), VE_iff, Node_iff]
  have hz := isZ_iff (v := e.V)
  have hv := valValid_iff (v := e.V)
  generalize (bif e.V.Null == false then (bif e.V.N == 0 then true else false) else false) = z at *
  generalize valValid e.V = vv at *
  have hk := kids_cases e.Kind
  constructor
  ·
   rintro ⟨h1, h2, h3, -, h4⟩
   rw [Bool.not_eq_true] at h1 h2 h3
   have h1 := or_neg h1
   have h2 := or_neg h2
   have h3 := or_neg h3
   have a1 := bne_neg h1.1
   refine ⟨⟨⟨a1, fun hk => ?_, fun hk => ?_, fun hk => ?_, fun hk => ?_⟩, fun hp => ?_⟩, fun i hi => ?_⟩
   ·
    have h2 := h2.1
    rw [hk, show ((1 : Int) == 1) = true from rfl, cond_true] at h2
    have := or_neg h2
    have b1 := of_decide_eq_false this.1
    have b2 := of_decide_eq_false this.2
    omega
   ·
    have h2 := h2.2
    rw [show (e.Kind != 1) = true by simp [hk], cond_true] at h2
    exact bne_neg h2
   ·
    have h3 := h3.1
    rw [hk, show ((2 : Int) == 2) = true from rfl, cond_true] at h3
    exact hv.1 (not_neg h3)
   ·
    have h3 := h3.2
    rw [show (e.Kind != 2) = true by simp [hk], cond_true] at h3
    exact hz.1 (not_neg h3)
   ·
    have h1 := h1.2
    rw [decide_eq_true (show 0 < kidsOfKind e.Kind by omega), cond_true] at h1
    have := beq_neg h1
    omega
   ·
    have h5 := h4 i hi
    have : 0 < l := by
     have h1 := h1.2
     rw [decide_eq_true (show 0 < kidsOfKind e.Kind by omega), cond_true] at h1
     have := beq_neg h1
     omega
    rw [show (l : Int) - 1 = ((l - 1 : Nat) : Int) by omega] at h5
    have hlt := kid_lt hi
    exact (ih _ _ (by omega)).1 h5
  ·
   rintro ⟨⟨⟨a1, a2, a3, a4, a5⟩, h2⟩, h3⟩
   refine ⟨?_, ?_, ?_, rfl, fun j hj => ?_⟩
   ·
    rw [a1, show (kidsOfKind e.Kind != kidsOfKind e.Kind) = false by simp, cond_false]
    by_cases h : 0 < kidsOfKind e.Kind
    ·
     rw [decide_eq_true h, cond_true]
     have := h2 (by omega)
     simp
     omega
    ·
     rw [decide_eq_false h]; simp
   ·
    by_cases h : e.Kind = 1
    ·
     have := a2 h
     rw [h, show ((1 : Int) == 1) = true from rfl, show ((1 : Int) != 1) = false from rfl]
     rw [decide_eq_false (show ¬ e.Col < 0 by omega), decide_eq_false (show ¬ w ≤ e.Col by omega)]
     simp
    ·
     have := a3 h
     rw [show (e.Kind == 1) = false by simp [h], this]
     simp
   ·
    by_cases h : e.Kind = 2
    ·
     have := hv.2 (a4 h)
     rw [h, show ((2 : Int) == 2) = true from rfl, show ((2 : Int) != 2) = false from rfl, this]
     simp
    ·
     have := hz.2 (a5 h)
     rw [show (e.Kind == 2) = false by simp [h], this]
     simp
   ·
    have := h2 (by omega)
    have hlt := kid_lt hj
    rw [show (l : Int) - 1 = ((l - 1 : Nat) : Int) by omega]
    exact (ih _ _ (by omega)).2 (h3 j hj)

theorem validExpr_iff {w : Int} : ∀ (f : Nat) (e : Xpr) (l : Nat), SizeOf.sizeOf e < f → (validExpr_r f e w (l : Int) = true ↔ VE w l e) := by
 intro f
 induction f with
 | zero => intro e l h; omega
 | succ f ih =>
  intro e l hf
  unfold validExpr_r
  rw [kids_eq, bif_false_iff, loop_iff (validExpr_l0 (validExpr_r f) e w l) e.Kids.length (fun i => validExpr_r f (List.getD e.Kids i Xpr.zero) w ((l : Int) - 1)) _ (fun k i => rfl), VE_iff, Node_iff]
  have hz := isZ_iff (v := e.V)
  have hv := validValue_iff (v := e.V)
  generalize (bif e.V.Null == false then (bif e.V.N == 0 then true else false) else false) = z at *
  generalize validValue e.V = vv at *
  constructor
  ·
   rintro ⟨h1, h2, h4⟩
   rw [Bool.not_eq_true] at h1
   have h1 := or_neg h1
   have a1 := bne_neg h1.1
   refine ⟨⟨⟨a1, fun hk => ?_, fun hk => ?_, fun hk => ?_, fun hk => ?_⟩, fun hp => ?_⟩, fun i hi => ?_⟩
   ·
    rw [hk, show ((1 : Int) == 1) = true from rfl, cond_true] at h2
    have := inRange_iff.1 (and_pos h2).1
    omega
   ·
    rw [show (e.Kind == 1) = false by simp [hk], cond_false] at h2
    cases hc : (e.Col == 0) with
    | true => exact beq_pos hc
    | false => rw [hc] at h2; simp at h2
   ·
    rw [hk, show ((2 : Int) == 1) = false from rfl, cond_false, show ((2 : Int) == 2) = true from rfl, cond_true] at h2
    exact hv.1 (and_pos h2).2
   ·
    by_cases h : e.Kind = 1
    ·
     rw [h, show ((1 : Int) == 1) = true from rfl, cond_true] at h2
     exact hz.1 (and_pos h2).2
    ·
     rw [show (e.Kind == 1) = false by simp [h], show (e.Kind == 2) = false by simp [hk], cond_false, cond_false] at h2
     exact hz.1 (and_pos h2).2
   ·
    have h1 := h1.2
    rw [decide_eq_true (show 0 < ((List.length e.Kids : Nat) : Int) by omega), cond_true] at h1
    have := beq_neg h1
    omega
   ·
    have h5 := h4 i hi
    have : 0 < l := by
     have h1 := h1.2
     rw [decide_eq_true (show 0 < ((List.length e.Kids : Nat) : Int) by omega), cond_true] at h1
     have := beq_neg h1
     omega
    rw [show (l : Int) - 1 = ((l - 1 : Nat) : Int) by omega] at h5
    have hlt := kid_lt hi
    exact (ih _ _ (by omega)).1 h5
  ·
   rintro ⟨⟨⟨a1, a2, a3, a4, a5⟩, h2⟩, h3⟩
   refine ⟨?_, ?_, fun j hj => ?_⟩
   ·
    rw [a1, show (kidsOfKind e.Kind != kidsOfKind e.Kind) = false by simp, cond_false]
    by_cases h : 0 < kidsOfKind e.Kind
    ·
     rw [decide_eq_true h, cond_true]
     have := h2 (by omega)
     simp
     omega
    ·
     rw [decide_eq_false h]; simp
   ·
    by_cases h : e.Kind = 1
    ·
     have := a2 h
     have e1 := inRange_iff.2 (show 0 ≤ e.Col ∧ e.Col ≤ w - 1 by omega)
     have e2 := hz.2 (a5 (by omega))
     rw [h, show ((1 : Int) == 1) = true from rfl, e1, e2]
     rfl
    ·
     have e0 := a3 h
     rw [show (e.Kind == 1) = false by simp [h], e0, cond_false]
     by_cases h' : e.Kind = 2
     ·
      rw [h', hv.2 (a4 h')]
      rfl
     ·
      rw [show (e.Kind == 2) = false by simp [h'], hz.2 (a5 h')]
      rfl
   ·
    have := h2 (by omega)
    have hlt := kid_lt hj
    rw [show (l : Int) - 1 = ((l - 1 : Nat) : Int) by omega]
    exact (ih _ _ (by omega)).2 (h3 j hj)

def ValidExpr (e : Xpr) (width : Int) : Bool := (bif (inRange width 1 6) then (validExpr (Xpr.mk (Xpr.Kind e) (Xpr.Col e) (Xpr.V e) (Xpr.Kids e)) width 8) else false)

def ValidExpr_sp : FnSpec := mkSpec [.val (.named 1), .val (.int .i64)] [.val .bool] (fun (e : Xpr) (width : Int) => True) (fun (e : Xpr) (width : Int) => [⟨.bool, (ValidExpr e width)⟩])

theorem ValidExpr_ok : FnOK Try.prog 96 ValidExpr_sp := by
 have hC : CtxOK Try.prog (mkCtx tyL [(88, inRange_sp), (126, validExpr_sp)]) := CtxOK.cons inRange_ok (CtxOK.cons validExpr_ok (CtxOK.nil tyOK))
 refine FnOK.of_body Try.func96 (by kernel_rfl) rfl (C := (mkCtx tyL [(88, inRange_sp), (126, validExpr_sp)])) hC.ty (by kernel_rfl) ?_
 intro (e : Xpr) (width : Int) hwf hpre E
 have hpre : True := hpre
 have hw_e : Wf ⟨(.named 1), (e : Xpr)⟩ := hwf _ (List.Mem.head _)
 obtain ⟨hr_e_Kind, hr_e_Col, hl_e_Kids⟩ := Xpr.wfl hw_e
 have hw_width : Wf ⟨(.int .i64), (width : Int)⟩ := hwf _ (List.Mem.tail _ (List.Mem.head _))
 have hr_width : -9223372036854775808 ≤ width ∧ width ≤ 9223372036854775807 := hw_width.int_inv
 have e0 : ValidExpr e width = ValidExpr e width := rfl
 refine AW.seq (AW.r1 hC [1, 2] [8] ⟨[(1, sI width), (2, .ref 8 1 0)], [(8, .box 1 [sI (Xpr.Kind e), sI (Xpr.Col e), sB (Val.Null (Xpr.V e)), sI (Val.N (Xpr.V e)), sD9 (Xpr.Kids e)])]⟩ ?_)
 refine AW.seq (AW.r0 hC [4] [] ⟨[(4, sB (bif (inRange width 1 6) then (validExpr (Xpr.mk (Xpr.Kind e) (Xpr.Col e) (Xpr.V e) (Xpr.Kids e)) width 8) else false))], []⟩ [(True), (((inRange width 1 6) = true) → (((inRange width 1 6) = true))), (((inRange width 1 6) = true) → (((inRange width 1 6) = true))), (((inRange width 1 6) = true) → ((0 ≤ (8 : Int) ∧ (8 : Int) ≤ 8) ∧ (1 ≤ width ∧ width ≤ 6))), (((inRange width 1 6) = true) → (((inRange width 1 6) = true)))] ?_ ?_)
 ·
  refine ⟨?_, ?_, ?_, ?_, ?_, trivial⟩
  ·
   trivial
  ·
   intro g1
   have g1p0 : (inRange width 1 6) = true := g1
   assumption
  ·
   intro g2
   have g2p0 : (inRange width 1 6) = true := g2
   assumption
  ·
   intro g3
   have g3p0 : (inRange width 1 6) = true := g3
   exact ⟨by decide, inRange_iff.1 g3p0⟩
  ·
   intro g4
   have g4p0 : (inRange width 1 6) = true := g4
   assumption
 exact AW.ret (AW.rB (bif (inRange width 1 6) then (validExpr (Xpr.mk (Xpr.Kind e) (Xpr.Col e) (Xpr.V e) (Xpr.Kids e)) width 8) else false) e0)

def iValidExpr (e : Xpr) (width : Int) : Bool := (bif (validWidth width) then (validBelow (Xpr.mk (Xpr.Kind e) (Xpr.Col e) (Xpr.V e) (Xpr.Kids e)) width 8) else false)

def iValidExpr_sp : FnSpec := mkSpec [.val (.named 1), .val (.int .i64)] [.val .bool] (fun (e : Xpr) (width : Int) => True) (fun (e : Xpr) (width : Int) => [⟨.bool, (iValidExpr e width)⟩])

theorem iValidExpr_ok : FnOK Try.prog 99 iValidExpr_sp := by
 have hC : CtxOK Try.prog (mkCtx tyL [(123, validWidth_sp), (131, validBelow_sp)]) := CtxOK.cons validWidth_ok (CtxOK.cons validBelow_ok (CtxOK.nil tyOK))
 refine FnOK.of_body Try.func99 (by kernel_rfl) rfl (C := (mkCtx tyL [(123, validWidth_sp), (131, validBelow_sp)])) hC.ty (by kernel_rfl) ?_
 intro (e : Xpr) (width : Int) hwf hpre E
 have hpre : True := hpre
 have hw_e : Wf ⟨(.named 1), (e : Xpr)⟩ := hwf _ (List.Mem.head _)
 obtain ⟨hr_e_Kind, hr_e_Col, hl_e_Kids⟩ := Xpr.wfl hw_e
 have hw_width : Wf ⟨(.int .i64), (width : Int)⟩ := hwf _ (List.Mem.tail _ (List.Mem.head _))
 have hr_width : -9223372036854775808 ≤ width ∧ width ≤ 9223372036854775807 := hw_width.int_inv
 have e0 : iValidExpr e width = iValidExpr e width := rfl
 refine AW.seq (AW.r1 hC [1, 2] [8] ⟨[(1, sI width), (2, .ref 8 1 0)], [(8, .box 1 [sI (Xpr.Kind e), sI (Xpr.Col e), sB (Val.Null (Xpr.V e)), sI (Val.N (Xpr.V e)), sD9 (Xpr.Kids e)])]⟩ ?_)
 refine AW.seq (AW.r0 hC [4] [] ⟨[(4, sB (bif (validWidth width) then (validBelow (Xpr.mk (Xpr.Kind e) (Xpr.Col e) (Xpr.V e) (Xpr.Kids e)) width 8) else false))], []⟩ [(True), (((validWidth width) = true) → (((validWidth width) = true))), (((validWidth width) = true) → (0 ≤ (8 : Int) ∧ (8 : Int) ≤ 8)), (((validWidth width) = true) → (((validWidth width) = true)))] ?_ ?_)
 ·
  refine ⟨?_, ?_, ?_, ?_, trivial⟩
  ·
   trivial
  ·
   intro g1
   have g1p0 : (validWidth width) = true := g1
   assumption
  ·
   intro g2
   have g2p0 : (validWidth width) = true := g2
   omega
  ·
   intro g3
   have g3p0 : (validWidth width) = true := g3
   assumption
 exact AW.ret (AW.rB (bif (validWidth width) then (validBelow (Xpr.mk (Xpr.Kind e) (Xpr.Col e) (Xpr.V e) (Xpr.Kids e)) width 8) else false) e0)

theorem ValidExpr_iff {e : Xpr} {w : Int} : ValidExpr e w = true ↔ (1 ≤ w ∧ w ≤ 6) ∧ VE w 8 e := by
 unfold ValidExpr
 rw [Xpr.eta]
 have h := validExpr_iff (w := w) (SizeOf.sizeOf e + 1) e 8 (Nat.lt_succ_self _)
 change (validExpr e w 8 = true ↔ _) at h
 rw [← h, ← inRange_iff]
 cases inRange w 1 6 <;> simp

theorem iValidExpr_iff {e : Xpr} {w : Int} : iValidExpr e w = true ↔ (1 ≤ w ∧ w ≤ 6) ∧ VE w 8 e := by
 unfold iValidExpr
 rw [Xpr.eta]
 have h := validBelow_iff (w := w) (SizeOf.sizeOf e + 1) e 8 (Nat.lt_succ_self _)
 change (validBelow e w 8 = true ↔ _) at h
 rw [← h, ← validWidth_iff]
 cases validWidth w <;> simp

theorem ValidExpr_same (e : Xpr) (w : Int) : iValidExpr e w = ValidExpr e w := by
 rw [Bool.eq_iff_iff, iValidExpr_iff, ValidExpr_iff]

end
end Go.Proofs.Ytodcdgolcbdkgaa
