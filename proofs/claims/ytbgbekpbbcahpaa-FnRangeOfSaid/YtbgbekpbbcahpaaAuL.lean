/-
  A part of the proof of this claim (AuL): what functions of the program compute, and plain facts of that. No conditions.
-/
import Derived.Test.YtbgbekpbbcahpaaAuK
set_option linter.all false
namespace Go.Proofs.Ytbgbekpbbcahpaa
open Go Go.Am
noncomputable section

theorem iValid_rows {t : Tab} (h : ValidTable t = true) : ∀ i, i < t.Rows.length → (((List.getD t.Rows i []).length : Nat) : Int) = t.Width ∧ validRow (List.getD t.Rows i []) = true := by
 intro i hi
 unfold ValidTable at h
 cases h0 : (bif (!(validWidth (Tab.Width t))) then true else (decide (400 < ((List.length (Tab.Rows t) : Nat) : Int)))) with
 | true => rw [h0] at h; cases h
 | false =>
  rw [h0] at h
  simp only [cond_false] at h
  rcases all_loopG false (ValidTable_l0 t) t.Rows.length (fun i => bif (bif ((((List.getD t.Rows i []).length : Nat) : Int) != (Tab.Width t)) then true else (!(validRow (List.getD t.Rows i [])))) then true else (bif (decide (0 < ((i : Nat) : Int))) then (decide (0 < (icompareRows (List.getD (Tab.Rows t) (Int.toNat (((i : Nat) : Int) - 1)) []) (List.getD t.Rows i [])))) else false)) (fun k i => by
   show _ = _
   conv => lhs; unfold ValidTable_l0
   cases (bif ((((List.getD t.Rows i []).length : Nat) : Int) != (Tab.Width t)) then true else (!(validRow (List.getD t.Rows i [])))) <;> rfl) (t.Rows.length - 0 + 1) 0 (by omega) with ⟨h1, h2⟩ | ⟨h1, h2⟩
  ·
   have h3 := (or_neg (h2 i (Nat.zero_le _) hi)).1
   have h4 := or_neg h3
   exact ⟨bne_neg h4.1, not_neg h4.2⟩
  ·
   rw [h1] at h
   cases h

theorem iValid_len {t : Tab} (h : ValidTable t = true) : t.Rows.length ≤ 400 := by
 unfold ValidTable at h
 cases h0 : (bif (!(validWidth (Tab.Width t))) then true else (decide (400 < ((List.length (Tab.Rows t) : Nat) : Int)))) with
 | true => rw [h0] at h; cases h
 | false =>
  have := of_decide_eq_false (or_neg h0).2
  omega

theorem range_col {e : Xpr} {w col : Int} (h : (iRangeOf e w col).2 = true) : ((1 ≤ w ∧ w ≤ 6) ∧ VE w 8 e) ∧ (0 ≤ col ∧ col < w) := by
 unfold iRangeOf at h
 cases hc : (bif (bif (!(iValidExpr (Xpr.mk (Xpr.Kind e) (Xpr.Col e) (Xpr.V e) (Xpr.Kids e)) w)) then true else (decide (col < 0))) then true else (decide (w ≤ col))) with
 | true => rw [hc] at h; cases h
 | false =>
  have h1 := or_neg hc
  have h2 := or_neg h1.1
  have h3 := not_neg h2.1
  rw [Xpr.eta] at h3
  have h4 := of_decide_eq_false h1.2
  have h5 := of_decide_eq_false h2.2
  exact ⟨iValidExpr_iff.1 h3, by omega, by omega⟩

abbrev dE (code : List Int) : Xpr := (DrawIndexed code).2.1
abbrev dM (code : List Int) : Xpr := Xpr.mk (Xpr.Kind ((DrawIndexed code).2.1)) (Xpr.Col ((DrawIndexed code).2.1)) (Xpr.V ((DrawIndexed code).2.1)) (Xpr.Kids ((DrawIndexed code).2.1))
abbrev dI (code : List Int) : Rng × Bool := iRangeOf (dM code) 2 ((DrawIndexed code).2.2)
abbrev dR (code : List Int) : Rng × Bool := RangeOf (dM code) 2 ((DrawIndexed code).2.2)
theorem dM_eq (code : List Int) : dM code = (DrawIndexed code).2.1 := Xpr.eta _
theorem dI_eq (code : List Int) : dI code = iRangeOf ((DrawIndexed code).2.1) 2 ((DrawIndexed code).2.2) := by
 show iRangeOf (dM code) _ _ = _
 rw [dM_eq]
theorem dR_eq (code : List Int) : dR code = RangeOf ((DrawIndexed code).2.1) 2 ((DrawIndexed code).2.2) := by
 show RangeOf (dM code) _ _ = _
 rw [dM_eq]

def FnRangeOf_l0 (code : List Int) : Nat → Nat → Unit ⊕ Bool
 | 0, i => .inl ()
 | k + 1, i => (bif (decide (((i : Nat) : Int) < ((List.length (Tab.Rows ((DrawIndexed code).1)) : Nat) : Int))) then (bif (bif (isTrue (dM code) (List.getD (Tab.Rows ((DrawIndexed code).1)) i [])) then (bif (bif (Val.Null (List.getD (List.getD (Tab.Rows ((DrawIndexed code).1)) i []) (Int.toNat ((DrawIndexed code).2.2)) Val.zero)) then true else (decide ((Val.N (List.getD (List.getD (Tab.Rows ((DrawIndexed code).1)) i []) (Int.toNat ((DrawIndexed code).2.2)) Val.zero)) < (Rng.Low ((dI code).1))))) then true else (decide ((Rng.High ((dI code).1)) < (Val.N (List.getD (List.getD (Tab.Rows ((DrawIndexed code).1)) i []) (Int.toNat ((DrawIndexed code).2.2)) Val.zero))))) else false) then (.inr false) else (FnRangeOf_l0 code k (i + 1))) else (.inl ()))

def FnRangeOf (code : List Int) : Bool := (bif (decide (1048576 < ((List.length code : Nat) : Int))) then true else (bif (bif (bif (bif (bif (((dI code).2) != ((dR code).2)) then true else (!(bif ((Rng.Low ((dI code).1)) == (Rng.Low ((dR code).1))) then (bif ((Rng.High ((dI code).1)) == (Rng.High ((dR code).1))) then true else false) else false))) then true else (!((dI code).2))) then true else (!(ValidTable ((DrawIndexed code).1)))) then true else ((Tab.Width ((DrawIndexed code).1)) != 2)) then (bif (((dI code).2) == ((dR code).2)) then (bif ((Rng.Low ((dI code).1)) == (Rng.Low ((dR code).1))) then (bif ((Rng.High ((dI code).1)) == (Rng.High ((dR code).1))) then true else false) else false) else false) else (Sum.elim (fun _ => true) (fun r => r) (FnRangeOf_l0 code ((List.length (Tab.Rows ((DrawIndexed code).1))) - 0 + 1) 0))))

def FnRangeOf_sp : FnSpec := mkSpec [.val (.slice (.int .u8))] [.val .bool] (fun (code : List Int) => True) (fun (code : List Int) => [⟨.bool, (FnRangeOf code)⟩])

theorem FnRangeOf_ok : FnOK Try.prog 4 FnRangeOf_sp := by
 have hC : CtxOK Try.prog (mkCtx tyL [(6, RangeOf_sp), (8, iRangeOf_sp), (11, DrawIndexed_sp), (12, ValidTable_sp), (13, isTrue_sp)]) := CtxOK.cons RangeOf_ok (CtxOK.cons iRangeOf_ok (CtxOK.cons DrawIndexed_ok (CtxOK.cons ValidTable_ok (CtxOK.cons isTrue_ok (CtxOK.nil tyOK)))))
 have hM : Try.prog.follows .mixedOrders = true := Try.checked.mixed
 refine FnOK.of_body Try.func4 (by kernel_rfl) rfl (C := (mkCtx tyL [(6, RangeOf_sp), (8, iRangeOf_sp), (11, DrawIndexed_sp), (12, ValidTable_sp), (13, isTrue_sp)])) hC.ty (by kernel_rfl) ?_
 intro (code : List Int) hwf hpre E
 have hpre : True := hpre
 have hw_code : Wf ⟨(.slice (.int .u8)), (code : List Int)⟩ := hwf _ (List.Mem.head _)
 have hl_code : ((List.length code : Nat) : Int) ≤ 9223372036854775807 := hw_code.len
 have e0 : FnRangeOf code = FnRangeOf code := rfl
 refine AW.seq (AW.r1 hC [0] [] ⟨[(0, sD9 code)], []⟩ ?_)
 refine AW.seq (AW.seq (AW.r1 hC [0, 14] [] ⟨[(0, sD9 code), (14, sB (decide (1048576 < ((List.length code : Nat) : Int))))], []⟩ ?_))
 refine AW.cd (decide (1048576 < ((List.length code : Nat) : Int))) ?_ ?_
 ·
  intro h1
  have h1q := (of_decide_eq_true h1)
  have e2 := e0.trans (Go.Am.bif_t h1)
  refine AW.seq (AW.r1 hC [2] [] ⟨[(2, sB true)], []⟩ ?_)
  exact AW.ret (AW.rB true e2)
 ·
  intro h3
  have h3q := (of_decide_eq_false h3)
  have e4 := e0.trans (Go.Am.bif_f h3)
  refine AW.kp [0] [] ⟨[(0, sD9 code)], []⟩ ?_
  refine AW.skip (AW.seq (AW.r0 hC [3, 4, 5] [12, 16] ⟨[(3, .ref 12 1 0), (4, .ref 16 1 0), (5, sI ((DrawIndexed code).2.2))], [(12, .box 1 [sI (Tab.Width ((DrawIndexed code).1)), sD12 (Tab.Rows ((DrawIndexed code).1))]), (16, .box 1 [sI (Xpr.Kind (dE code)), sI (Xpr.Col (dE code)), sB (Val.Null (Xpr.V (dE code))), sI (Val.N (Xpr.V (dE code))), sD11 (Xpr.Kids (dE code))])]⟩ [(True)] ?_ ?_))
  ·
   refine ⟨?_, trivial⟩
   ·
    trivial
  refine AW.seq (AW.r0 hC [3, 4, 5, 6, 7] [12, 16, 24] ⟨[(3, .ref 12 1 0), (4, .ref 16 1 0), (5, sI ((DrawIndexed code).2.2)), (6, .ref 24 1 0), (7, sB ((dI code).2))], [(12, .box 1 [sI (Tab.Width ((DrawIndexed code).1)), sD12 (Tab.Rows ((DrawIndexed code).1))]), (16, .box 1 [sI (Xpr.Kind (dE code)), sI (Xpr.Col (dE code)), sB (Val.Null (Xpr.V (dE code))), sI (Val.N (Xpr.V (dE code))), sD11 (Xpr.Kids (dE code))]), (24, .box 1 [sI (Rng.Low ((dI code).1)), sI (Rng.High ((dI code).1))])]⟩ [(True)] ?_ ?_)
  ·
   refine ⟨?_, trivial⟩
   ·
    trivial
  refine AW.seq (AW.r0 hC [3, 4, 5, 6, 7, 8, 9] [12, 16, 24, 32] ⟨[(3, .ref 12 1 0), (4, .ref 16 1 0), (5, sI ((DrawIndexed code).2.2)), (6, .ref 24 1 0), (7, sB ((dI code).2)), (8, .ref 32 1 0), (9, sB ((dR code).2))], [(12, .box 1 [sI (Tab.Width ((DrawIndexed code).1)), sD12 (Tab.Rows ((DrawIndexed code).1))]), (16, .box 1 [sI (Xpr.Kind (dE code)), sI (Xpr.Col (dE code)), sB (Val.Null (Xpr.V (dE code))), sI (Val.N (Xpr.V (dE code))), sD11 (Xpr.Kids (dE code))]), (24, .box 1 [sI (Rng.Low ((dI code).1)), sI (Rng.High ((dI code).1))]), (32, .box 1 [sI (Rng.Low ((dR code).1)), sI (Rng.High ((dR code).1))])]⟩ [(True)] ?_ ?_)
  ·
   refine ⟨?_, trivial⟩
   ·
    trivial
  refine AW.seq (AW.seq (AW.r0 hC [3, 4, 5, 6, 7, 8, 9, 54] [12, 16, 24, 32] ⟨[(3, .ref 12 1 0), (4, .ref 16 1 0), (5, sI ((DrawIndexed code).2.2)), (6, .ref 24 1 0), (7, sB ((dI code).2)), (8, .ref 32 1 0), (9, sB ((dR code).2)), (54, sB (bif (bif (bif (bif (((dI code).2) != ((dR code).2)) then true else (!(bif ((Rng.Low ((dI code).1)) == (Rng.Low ((dR code).1))) then (bif ((Rng.High ((dI code).1)) == (Rng.High ((dR code).1))) then true else false) else false))) then true else (!((dI code).2))) then true else (!(ValidTable ((DrawIndexed code).1)))) then true else ((Tab.Width ((DrawIndexed code).1)) != 2)))], [(12, .box 1 [sI (Tab.Width ((DrawIndexed code).1)), sD12 (Tab.Rows ((DrawIndexed code).1))]), (16, .box 1 [sI (Xpr.Kind (dE code)), sI (Xpr.Col (dE code)), sB (Val.Null (Xpr.V (dE code))), sI (Val.N (Xpr.V (dE code))), sD11 (Xpr.Kids (dE code))]), (24, .box 1 [sI (Rng.Low ((dI code).1)), sI (Rng.High ((dI code).1))]), (32, .box 1 [sI (Rng.Low ((dR code).1)), sI (Rng.High ((dR code).1))])]⟩ [(((((dI code).2) != ((dR code).2)) = false) → (((((dI code).2) != ((dR code).2)) = false))), (((((dI code).2) != ((dR code).2)) = false) → (((((dI code).2) != ((dR code).2)) = false))), (((((dI code).2) != ((dR code).2)) = false) → (((((dI code).2) != ((dR code).2)) = false))), (((bif (((dI code).2) != ((dR code).2)) then true else (!(bif ((Rng.Low ((dI code).1)) == (Rng.Low ((dR code).1))) then (bif ((Rng.High ((dI code).1)) == (Rng.High ((dR code).1))) then true else false) else false))) = false) → (((bif (((dI code).2) != ((dR code).2)) then true else (!(bif ((Rng.Low ((dI code).1)) == (Rng.Low ((dR code).1))) then (bif ((Rng.High ((dI code).1)) == (Rng.High ((dR code).1))) then true else false) else false))) = false))), (((bif (((dI code).2) != ((dR code).2)) then true else (!(bif ((Rng.Low ((dI code).1)) == (Rng.Low ((dR code).1))) then (bif ((Rng.High ((dI code).1)) == (Rng.High ((dR code).1))) then true else false) else false))) = false) → (((bif (((dI code).2) != ((dR code).2)) then true else (!(bif ((Rng.Low ((dI code).1)) == (Rng.Low ((dR code).1))) then (bif ((Rng.High ((dI code).1)) == (Rng.High ((dR code).1))) then true else false) else false))) = false))), (((bif (bif (((dI code).2) != ((dR code).2)) then true else (!(bif ((Rng.Low ((dI code).1)) == (Rng.Low ((dR code).1))) then (bif ((Rng.High ((dI code).1)) == (Rng.High ((dR code).1))) then true else false) else false))) then true else (!((dI code).2))) = false) → (((bif (bif (((dI code).2) != ((dR code).2)) then true else (!(bif ((Rng.Low ((dI code).1)) == (Rng.Low ((dR code).1))) then (bif ((Rng.High ((dI code).1)) == (Rng.High ((dR code).1))) then true else false) else false))) then true else (!((dI code).2))) = false))), (((bif (bif (((dI code).2) != ((dR code).2)) then true else (!(bif ((Rng.Low ((dI code).1)) == (Rng.Low ((dR code).1))) then (bif ((Rng.High ((dI code).1)) == (Rng.High ((dR code).1))) then true else false) else false))) then true else (!((dI code).2))) = false) → (True)), (((bif (bif (((dI code).2) != ((dR code).2)) then true else (!(bif ((Rng.Low ((dI code).1)) == (Rng.Low ((dR code).1))) then (bif ((Rng.High ((dI code).1)) == (Rng.High ((dR code).1))) then true else false) else false))) then true else (!((dI code).2))) = false) → (((bif (bif (((dI code).2) != ((dR code).2)) then true else (!(bif ((Rng.Low ((dI code).1)) == (Rng.Low ((dR code).1))) then (bif ((Rng.High ((dI code).1)) == (Rng.High ((dR code).1))) then true else false) else false))) then true else (!((dI code).2))) = false))), (((bif (bif (((dI code).2) != ((dR code).2)) then true else (!(bif ((Rng.Low ((dI code).1)) == (Rng.Low ((dR code).1))) then (bif ((Rng.High ((dI code).1)) == (Rng.High ((dR code).1))) then true else false) else false))) then true else (!((dI code).2))) = false) → (((bif (bif (((dI code).2) != ((dR code).2)) then true else (!(bif ((Rng.Low ((dI code).1)) == (Rng.Low ((dR code).1))) then (bif ((Rng.High ((dI code).1)) == (Rng.High ((dR code).1))) then true else false) else false))) then true else (!((dI code).2))) = false))), (((bif (bif (bif (((dI code).2) != ((dR code).2)) then true else (!(bif ((Rng.Low ((dI code).1)) == (Rng.Low ((dR code).1))) then (bif ((Rng.High ((dI code).1)) == (Rng.High ((dR code).1))) then true else false) else false))) then true else (!((dI code).2))) then true else (!(ValidTable ((DrawIndexed code).1)))) = false) → (((bif (bif (bif (((dI code).2) != ((dR code).2)) then true else (!(bif ((Rng.Low ((dI code).1)) == (Rng.Low ((dR code).1))) then (bif ((Rng.High ((dI code).1)) == (Rng.High ((dR code).1))) then true else false) else false))) then true else (!((dI code).2))) then true else (!(ValidTable ((DrawIndexed code).1)))) = false))), (((bif (bif (bif (((dI code).2) != ((dR code).2)) then true else (!(bif ((Rng.Low ((dI code).1)) == (Rng.Low ((dR code).1))) then (bif ((Rng.High ((dI code).1)) == (Rng.High ((dR code).1))) then true else false) else false))) then true else (!((dI code).2))) then true else (!(ValidTable ((DrawIndexed code).1)))) = false) → (((bif (bif (bif (((dI code).2) != ((dR code).2)) then true else (!(bif ((Rng.Low ((dI code).1)) == (Rng.Low ((dR code).1))) then (bif ((Rng.High ((dI code).1)) == (Rng.High ((dR code).1))) then true else false) else false))) then true else (!((dI code).2))) then true else (!(ValidTable ((DrawIndexed code).1)))) = false))), (((bif (bif (bif (((dI code).2) != ((dR code).2)) then true else (!(bif ((Rng.Low ((dI code).1)) == (Rng.Low ((dR code).1))) then (bif ((Rng.High ((dI code).1)) == (Rng.High ((dR code).1))) then true else false) else false))) then true else (!((dI code).2))) then true else (!(ValidTable ((DrawIndexed code).1)))) = false) → (((bif (bif (bif (((dI code).2) != ((dR code).2)) then true else (!(bif ((Rng.Low ((dI code).1)) == (Rng.Low ((dR code).1))) then (bif ((Rng.High ((dI code).1)) == (Rng.High ((dR code).1))) then true else false) else false))) then true else (!((dI code).2))) then true else (!(ValidTable ((DrawIndexed code).1)))) = false)))] ?_ ?_))
  ·
   refine ⟨?_, ?_, ?_, ?_, ?_, ?_, ?_, ?_, ?_, ?_, ?_, ?_, trivial⟩
   ·
    intro g5
    have g5p0 : (((dI code).2) != ((dR code).2)) = false := g5
    assumption
   ·
    intro g6
    have g6p0 : (((dI code).2) != ((dR code).2)) = false := g6
    assumption
   ·
    intro g7
    have g7p0 : (((dI code).2) != ((dR code).2)) = false := g7
    assumption
   ·
    intro g8
    have g8p0 : ((((dI code).2) != ((dR code).2)) = false) ∧ (((Rng.Low ((dI code).1)) = (Rng.Low ((dR code).1))) ∧ (((Rng.High ((dI code).1)) = (Rng.High ((dR code).1))) ∧ (true = true))) := (And.imp (fun h => h) (fun h => (And.imp (fun h => (Go.Am.beq_pos h)) (fun h => (And.imp (fun h => (Go.Am.beq_pos h)) (fun h => h) (Go.Am.and_pos h))) (Go.Am.and_pos (Go.Am.not_neg h)))) (Go.Am.or_neg g8))
    assumption
   ·
    intro g9
    have g9p0 : ((((dI code).2) != ((dR code).2)) = false) ∧ (((Rng.Low ((dI code).1)) = (Rng.Low ((dR code).1))) ∧ (((Rng.High ((dI code).1)) = (Rng.High ((dR code).1))) ∧ (true = true))) := (And.imp (fun h => h) (fun h => (And.imp (fun h => (Go.Am.beq_pos h)) (fun h => (And.imp (fun h => (Go.Am.beq_pos h)) (fun h => h) (Go.Am.and_pos h))) (Go.Am.and_pos (Go.Am.not_neg h)))) (Go.Am.or_neg g9))
    assumption
   ·
    intro g10
    have g10p0 : (((((dI code).2) != ((dR code).2)) = false) ∧ (((Rng.Low ((dI code).1)) = (Rng.Low ((dR code).1))) ∧ (((Rng.High ((dI code).1)) = (Rng.High ((dR code).1))) ∧ (true = true)))) ∧ (((dI code).2) = true) := (And.imp (fun h => (And.imp (fun h => h) (fun h => (And.imp (fun h => (Go.Am.beq_pos h)) (fun h => (And.imp (fun h => (Go.Am.beq_pos h)) (fun h => h) (Go.Am.and_pos h))) (Go.Am.and_pos (Go.Am.not_neg h)))) (Go.Am.or_neg h))) (fun h => (Go.Am.not_neg h)) (Go.Am.or_neg g10))
    assumption
   ·
    intro g11
    have g11p0 : (((((dI code).2) != ((dR code).2)) = false) ∧ (((Rng.Low ((dI code).1)) = (Rng.Low ((dR code).1))) ∧ (((Rng.High ((dI code).1)) = (Rng.High ((dR code).1))) ∧ (true = true)))) ∧ (((dI code).2) = true) := (And.imp (fun h => (And.imp (fun h => h) (fun h => (And.imp (fun h => (Go.Am.beq_pos h)) (fun h => (And.imp (fun h => (Go.Am.beq_pos h)) (fun h => h) (Go.Am.and_pos h))) (Go.Am.and_pos (Go.Am.not_neg h)))) (Go.Am.or_neg h))) (fun h => (Go.Am.not_neg h)) (Go.Am.or_neg g11))
    trivial
   ·
    intro g12
    have g12p0 : (((((dI code).2) != ((dR code).2)) = false) ∧ (((Rng.Low ((dI code).1)) = (Rng.Low ((dR code).1))) ∧ (((Rng.High ((dI code).1)) = (Rng.High ((dR code).1))) ∧ (true = true)))) ∧ (((dI code).2) = true) := (And.imp (fun h => (And.imp (fun h => h) (fun h => (And.imp (fun h => (Go.Am.beq_pos h)) (fun h => (And.imp (fun h => (Go.Am.beq_pos h)) (fun h => h) (Go.Am.and_pos h))) (Go.Am.and_pos (Go.Am.not_neg h)))) (Go.Am.or_neg h))) (fun h => (Go.Am.not_neg h)) (Go.Am.or_neg g12))
    assumption
   ·
    intro g13
    have g13p0 : (((((dI code).2) != ((dR code).2)) = false) ∧ (((Rng.Low ((dI code).1)) = (Rng.Low ((dR code).1))) ∧ (((Rng.High ((dI code).1)) = (Rng.High ((dR code).1))) ∧ (true = true)))) ∧ (((dI code).2) = true) := (And.imp (fun h => (And.imp (fun h => h) (fun h => (And.imp (fun h => (Go.Am.beq_pos h)) (fun h => (And.imp (fun h => (Go.Am.beq_pos h)) (fun h => h) (Go.Am.and_pos h))) (Go.Am.and_pos (Go.Am.not_neg h)))) (Go.Am.or_neg h))) (fun h => (Go.Am.not_neg h)) (Go.Am.or_neg g13))
    assumption
   ·
    intro g14
    have g14p0 : ((((((dI code).2) != ((dR code).2)) = false) ∧ (((Rng.Low ((dI code).1)) = (Rng.Low ((dR code).1))) ∧ (((Rng.High ((dI code).1)) = (Rng.High ((dR code).1))) ∧ (true = true)))) ∧ (((dI code).2) = true)) ∧ ((ValidTable ((DrawIndexed code).1)) = true) := (And.imp (fun h => (And.imp (fun h => (And.imp (fun h => h) (fun h => (And.imp (fun h => (Go.Am.beq_pos h)) (fun h => (And.imp (fun h => (Go.Am.beq_pos h)) (fun h => h) (Go.Am.and_pos h))) (Go.Am.and_pos (Go.Am.not_neg h)))) (Go.Am.or_neg h))) (fun h => (Go.Am.not_neg h)) (Go.Am.or_neg h))) (fun h => (Go.Am.not_neg h)) (Go.Am.or_neg g14))
    assumption
   ·
    intro g15
    have g15p0 : ((((((dI code).2) != ((dR code).2)) = false) ∧ (((Rng.Low ((dI code).1)) = (Rng.Low ((dR code).1))) ∧ (((Rng.High ((dI code).1)) = (Rng.High ((dR code).1))) ∧ (true = true)))) ∧ (((dI code).2) = true)) ∧ ((ValidTable ((DrawIndexed code).1)) = true) := (And.imp (fun h => (And.imp (fun h => (And.imp (fun h => h) (fun h => (And.imp (fun h => (Go.Am.beq_pos h)) (fun h => (And.imp (fun h => (Go.Am.beq_pos h)) (fun h => h) (Go.Am.and_pos h))) (Go.Am.and_pos (Go.Am.not_neg h)))) (Go.Am.or_neg h))) (fun h => (Go.Am.not_neg h)) (Go.Am.or_neg h))) (fun h => (Go.Am.not_neg h)) (Go.Am.or_neg g15))
    assumption
   ·
    intro g16
    have g16p0 : ((((((dI code).2) != ((dR code).2)) = false) ∧ (((Rng.Low ((dI code).1)) = (Rng.Low ((dR code).1))) ∧ (((Rng.High ((dI code).1)) = (Rng.High ((dR code).1))) ∧ (true = true)))) ∧ (((dI code).2) = true)) ∧ ((ValidTable ((DrawIndexed code).1)) = true) := (And.imp (fun h => (And.imp (fun h => (And.imp (fun h => h) (fun h => (And.imp (fun h => (Go.Am.beq_pos h)) (fun h => (And.imp (fun h => (Go.Am.beq_pos h)) (fun h => h) (Go.Am.and_pos h))) (Go.Am.and_pos (Go.Am.not_neg h)))) (Go.Am.or_neg h))) (fun h => (Go.Am.not_neg h)) (Go.Am.or_neg h))) (fun h => (Go.Am.not_neg h)) (Go.Am.or_neg g16))
    assumption
  refine AW.cd (bif (bif (bif (bif (((dI code).2) != ((dR code).2)) then true else (!(bif ((Rng.Low ((dI code).1)) == (Rng.Low ((dR code).1))) then (bif ((Rng.High ((dI code).1)) == (Rng.High ((dR code).1))) then true else false) else false))) then true else (!((dI code).2))) then true else (!(ValidTable ((DrawIndexed code).1)))) then true else ((Tab.Width ((DrawIndexed code).1)) != 2)) ?_ ?_
  ·
   intro h17
   have h17q : (((((((dI code).2) != ((dR code).2)) = true) ∨ (((Rng.Low ((dI code).1)) ≠ (Rng.Low ((dR code).1))) ∨ (((Rng.High ((dI code).1)) ≠ (Rng.High ((dR code).1))) ∨ (true = false)))) ∨ (((dI code).2) = false)) ∨ ((ValidTable ((DrawIndexed code).1)) = false)) ∨ ((Tab.Width ((DrawIndexed code).1)) ≠ 2) := (Or.imp (fun h => (Or.imp (fun h => (Or.imp (fun h => (Or.imp (fun h => h) (fun h => (Or.imp (fun h => (Go.Am.beq_neg h)) (fun h => (Or.imp (fun h => (Go.Am.beq_neg h)) (fun h => h) (Go.Am.and_neg h))) (Go.Am.and_neg (Go.Am.not_pos h)))) (Go.Am.or_pos h))) (fun h => (Go.Am.not_pos h)) (Go.Am.or_pos h))) (fun h => (Go.Am.not_pos h)) (Go.Am.or_pos h))) (fun h => (Go.Am.bne_pos h)) (Go.Am.or_pos h17))
   have e18 := e4.trans (Go.Am.bif_t h17)
   refine AW.seq (AW.r0 hC [2] [] ⟨[(2, sB (bif (((dI code).2) == ((dR code).2)) then (bif ((Rng.Low ((dI code).1)) == (Rng.Low ((dR code).1))) then (bif ((Rng.High ((dI code).1)) == (Rng.High ((dR code).1))) then true else false) else false) else false))], []⟩ [(((((dI code).2) == ((dR code).2)) = true) → (((((dI code).2) == ((dR code).2)) = true))), (((((dI code).2) == ((dR code).2)) = true) → (((((dI code).2) == ((dR code).2)) = true))), (((((dI code).2) == ((dR code).2)) = true) → (((((dI code).2) == ((dR code).2)) = true)))] ?_ ?_)
   ·
    refine ⟨?_, ?_, ?_, trivial⟩
    ·
     intro g19
     have g19p0 : (((dI code).2) == ((dR code).2)) = true := g19
     assumption
    ·
     intro g20
     have g20p0 : (((dI code).2) == ((dR code).2)) = true := g20
     assumption
    ·
     intro g21
     have g21p0 : (((dI code).2) == ((dR code).2)) = true := g21
     assumption
   exact AW.ret (AW.rB (bif (((dI code).2) == ((dR code).2)) then (bif ((Rng.Low ((dI code).1)) == (Rng.Low ((dR code).1))) then (bif ((Rng.High ((dI code).1)) == (Rng.High ((dR code).1))) then true else false) else false) else false) e18)
  ·
   intro h22
   have h22q : (((((((dI code).2) != ((dR code).2)) = false) ∧ (((Rng.Low ((dI code).1)) = (Rng.Low ((dR code).1))) ∧ (((Rng.High ((dI code).1)) = (Rng.High ((dR code).1))) ∧ (true = true)))) ∧ (((dI code).2) = true)) ∧ ((ValidTable ((DrawIndexed code).1)) = true)) ∧ ((Tab.Width ((DrawIndexed code).1)) = 2) := (And.imp (fun h => (And.imp (fun h => (And.imp (fun h => (And.imp (fun h => h) (fun h => (And.imp (fun h => (Go.Am.beq_pos h)) (fun h => (And.imp (fun h => (Go.Am.beq_pos h)) (fun h => h) (Go.Am.and_pos h))) (Go.Am.and_pos (Go.Am.not_neg h)))) (Go.Am.or_neg h))) (fun h => (Go.Am.not_neg h)) (Go.Am.or_neg h))) (fun h => (Go.Am.not_neg h)) (Go.Am.or_neg h))) (fun h => (Go.Am.bne_neg h)) (Go.Am.or_neg h22))
   have e23 := e4.trans (Go.Am.bif_f h22)
   refine AW.kp [3, 4, 5, 6] [12, 16, 24] ⟨[(3, .ref 12 1 0), (4, .ref 16 1 0), (5, sI ((DrawIndexed code).2.2)), (6, .ref 24 1 0)], [(12, .box 1 [sI (Tab.Width ((DrawIndexed code).1)), sD12 (Tab.Rows ((DrawIndexed code).1))]), (16, .box 1 [sI (Xpr.Kind (dE code)), sI (Xpr.Col (dE code)), sB (Val.Null (Xpr.V (dE code))), sI (Val.N (Xpr.V (dE code))), sD11 (Xpr.Kids (dE code))]), (24, .box 1 [sI (Rng.Low ((dI code).1)), sI (Rng.High ((dI code).1))])]⟩ ?_
   refine AW.skip (AW.seq (AW.seq ?_))
   have hR := range_col h22q.1.1.2
   have hV := iValid_rows h22q.1.2
   have hn4 := iValid_len h22q.1.2
   have hW := h22q.2
   refine AW.r1 hC [3, 4, 5, 6, 10] [12, 16, 24] ⟨[(3, .ref 12 1 0), (4, .ref 16 1 0), (5, sI ((DrawIndexed code).2.2)), (6, .ref 24 1 0), (10, sI 0)], [(12, .box 1 [sI (Tab.Width ((DrawIndexed code).1)), sD12 (Tab.Rows ((DrawIndexed code).1))]), (16, .box 1 [sI (Xpr.Kind (dE code)), sI (Xpr.Col (dE code)), sB (Val.Null (Xpr.V (dE code))), sI (Val.N (Xpr.V (dE code))), sD11 (Xpr.Kids (dE code))]), (24, .box 1 [sI (Rng.Low ((dI code).1)), sI (Rng.High ((dI code).1))])]⟩ ?_
   refine AW.cutQ (α := Unit) (fun x => ⟨[], []⟩) (fun x => (True) ∧ (FnRangeOf_l0 code ((List.length (Tab.Rows ((DrawIndexed code).1))) - 0 + 1) 0) = (.inl ())) ?_ ?_
   ·
    skip
    refine AW.block (AW.loop (α := Nat) (fun x => ⟨[(3, .ref 12 1 0), (4, .ref 16 1 0), (5, sI ((DrawIndexed code).2.2)), (6, .ref 24 1 0), (10, sI ((x : Nat) : Int))], [(12, .box 1 [sI (Tab.Width ((DrawIndexed code).1)), sD12 (Tab.Rows ((DrawIndexed code).1))]), (16, .box 1 [sI (Xpr.Kind (dE code)), sI (Xpr.Col (dE code)), sB (Val.Null (Xpr.V (dE code))), sI (Val.N (Xpr.V (dE code))), sD11 (Xpr.Kids (dE code))]), (24, .box 1 [sI (Rng.Low ((dI code).1)), sI (Rng.High ((dI code).1))])]⟩) (fun x => (True) ∧ ∃ k, (List.length (Tab.Rows ((DrawIndexed code).1))) - x < k ∧ (FnRangeOf_l0 code ((List.length (Tab.Rows ((DrawIndexed code).1))) - 0 + 1) 0) = FnRangeOf_l0 code k x) (fun x => (List.length (Tab.Rows ((DrawIndexed code).1))) - x) 0 (by kernel_rfl) ⟨?_, _, Nat.lt_succ_self _, rfl⟩ ?_)
    ·
     show True
     exact trivial
    ·
     intro i hR
     obtain ⟨hI0, k53, hk51, e52⟩ := hR
     replace hI0 : True := hI0
     replace hk51 : (List.length (Tab.Rows ((DrawIndexed code).1))) - i < k53 := hk51
     obtain ⟨k53q, rfl⟩ : ∃ k, k53 = k + 1 := ⟨k53 - 1, by omega⟩
     refine AW.seq (AW.seq (AW.r1 hC [3, 4, 5, 6, 10, 67] [12, 16, 24] ⟨[(3, .ref 12 1 0), (4, .ref 16 1 0), (5, sI ((DrawIndexed code).2.2)), (6, .ref 24 1 0), (10, sI ((i : Nat) : Int)), (67, sB (decide (((i : Nat) : Int) < ((List.length (Tab.Rows ((DrawIndexed code).1)) : Nat) : Int))))], [(12, .box 1 [sI (Tab.Width ((DrawIndexed code).1)), sD12 (Tab.Rows ((DrawIndexed code).1))]), (16, .box 1 [sI (Xpr.Kind (dE code)), sI (Xpr.Col (dE code)), sB (Val.Null (Xpr.V (dE code))), sI (Val.N (Xpr.V (dE code))), sD11 (Xpr.Kids (dE code))]), (24, .box 1 [sI (Rng.Low ((dI code).1)), sI (Rng.High ((dI code).1))])]⟩ ?_))
     refine AW.cd (decide (((i : Nat) : Int) < ((List.length (Tab.Rows ((DrawIndexed code).1)) : Nat) : Int))) ?_ ?_
     ·
      intro h54
      have h54q := (of_decide_eq_true h54)
      have e55 := e52.trans (Go.Am.bif_t h54)
      refine AW.kp [3, 4, 5, 6, 10] [12, 16, 24] ⟨[(3, .ref 12 1 0), (4, .ref 16 1 0), (5, sI ((DrawIndexed code).2.2)), (6, .ref 24 1 0), (10, sI ((i : Nat) : Int))], [(12, .box 1 [sI (Tab.Width ((DrawIndexed code).1)), sD12 (Tab.Rows ((DrawIndexed code).1))]), (16, .box 1 [sI (Xpr.Kind (dE code)), sI (Xpr.Col (dE code)), sB (Val.Null (Xpr.V (dE code))), sI (Val.N (Xpr.V (dE code))), sD11 (Xpr.Kids (dE code))]), (24, .box 1 [sI (Rng.Low ((dI code).1)), sI (Rng.High ((dI code).1))])]⟩ ?_
      refine AW.skip (AW.seq (AW.block (AW.seq ?_)))
      have hr := (hV _ (Int.ofNat_lt.1 h54q)).1
      refine AW.r0 hC [3, 4, 5, 6, 10, 11] [12, 16, 24, 44] ⟨[(3, .ref 12 1 0), (4, .ref 16 1 0), (5, sI ((DrawIndexed code).2.2)), (6, .ref 24 1 0), (10, sI ((i : Nat) : Int)), (11, .ref 44 1 0)], [(12, .box 1 [sI (Tab.Width ((DrawIndexed code).1)), sD12 (Tab.Rows ((DrawIndexed code).1))]), (16, .box 1 [sI (Xpr.Kind (dE code)), sI (Xpr.Col (dE code)), sB (Val.Null (Xpr.V (dE code))), sI (Val.N (Xpr.V (dE code))), sD11 (Xpr.Kids (dE code))]), (24, .box 1 [sI (Rng.Low ((dI code).1)), sI (Rng.High ((dI code).1))]), (44, .box 1 [sB (Val.Null (List.getD (List.getD (Tab.Rows ((DrawIndexed code).1)) i []) (Int.toNat ((DrawIndexed code).2.2)) Val.zero)), sI (Val.N (List.getD (List.getD (Tab.Rows ((DrawIndexed code).1)) i []) (Int.toNat ((DrawIndexed code).2.2)) Val.zero))])]⟩ [IX ((i : Nat) : Int) ((List.length (Tab.Rows ((DrawIndexed code).1)) : Nat) : Int), IX ((DrawIndexed code).2.2) ((List.length (List.getD (Tab.Rows ((DrawIndexed code).1)) i []) : Nat) : Int)] ?_ ?_
      ·
       refine ⟨?_, ?_, trivial⟩
       ·
        refine IX.of ?_
        omega
       ·
        refine IX.of ?_
        omega
      refine AW.seq (AW.d0 hC hM [3, 4, 5, 6, 10, 102] [12, 16, 24] ⟨[(3, .ref 12 1 0), (4, .ref 16 1 0), (5, sI ((DrawIndexed code).2.2)), (6, .ref 24 1 0), (10, sI ((i : Nat) : Int)), (102, sB (bif (isTrue (dM code) (List.getD (Tab.Rows ((DrawIndexed code).1)) i [])) then (bif (bif (Val.Null (List.getD (List.getD (Tab.Rows ((DrawIndexed code).1)) i []) (Int.toNat ((DrawIndexed code).2.2)) Val.zero)) then true else (decide ((Val.N (List.getD (List.getD (Tab.Rows ((DrawIndexed code).1)) i []) (Int.toNat ((DrawIndexed code).2.2)) Val.zero)) < (Rng.Low ((dI code).1))))) then true else (decide ((Rng.High ((dI code).1)) < (Val.N (List.getD (List.getD (Tab.Rows ((DrawIndexed code).1)) i []) (Int.toNat ((DrawIndexed code).2.2)) Val.zero))))) else false))], [(12, .box 1 [sI (Tab.Width ((DrawIndexed code).1)), sD12 (Tab.Rows ((DrawIndexed code).1))]), (16, .box 1 [sI (Xpr.Kind (dE code)), sI (Xpr.Col (dE code)), sB (Val.Null (Xpr.V (dE code))), sI (Val.N (Xpr.V (dE code))), sD11 (Xpr.Kids (dE code))]), (24, .box 1 [sI (Rng.Low ((dI code).1)), sI (Rng.High ((dI code).1))])]⟩ [IX ((i : Nat) : Int) ((List.length (Tab.Rows ((DrawIndexed code).1)) : Nat) : Int), (True), (((isTrue (dM code) (List.getD (Tab.Rows ((DrawIndexed code).1)) i [])) = true) → (((isTrue (dM code) (List.getD (Tab.Rows ((DrawIndexed code).1)) i [])) = true))), (((isTrue (dM code) (List.getD (Tab.Rows ((DrawIndexed code).1)) i [])) = true) → (((isTrue (dM code) (List.getD (Tab.Rows ((DrawIndexed code).1)) i [])) = true))), ((((isTrue (dM code) (List.getD (Tab.Rows ((DrawIndexed code).1)) i [])) = true) ∧ ((Val.Null (List.getD (List.getD (Tab.Rows ((DrawIndexed code).1)) i []) (Int.toNat ((DrawIndexed code).2.2)) Val.zero)) = false)) → ((((isTrue (dM code) (List.getD (Tab.Rows ((DrawIndexed code).1)) i [])) = true) ∧ ((Val.Null (List.getD (List.getD (Tab.Rows ((DrawIndexed code).1)) i []) (Int.toNat ((DrawIndexed code).2.2)) Val.zero)) = false)))), ((((isTrue (dM code) (List.getD (Tab.Rows ((DrawIndexed code).1)) i [])) = true) ∧ ((Val.Null (List.getD (List.getD (Tab.Rows ((DrawIndexed code).1)) i []) (Int.toNat ((DrawIndexed code).2.2)) Val.zero)) = false)) → ((((isTrue (dM code) (List.getD (Tab.Rows ((DrawIndexed code).1)) i [])) = true) ∧ ((Val.Null (List.getD (List.getD (Tab.Rows ((DrawIndexed code).1)) i []) (Int.toNat ((DrawIndexed code).2.2)) Val.zero)) = false)))), ((((isTrue (dM code) (List.getD (Tab.Rows ((DrawIndexed code).1)) i [])) = true) ∧ ((Val.Null (List.getD (List.getD (Tab.Rows ((DrawIndexed code).1)) i []) (Int.toNat ((DrawIndexed code).2.2)) Val.zero)) = false)) → ((((isTrue (dM code) (List.getD (Tab.Rows ((DrawIndexed code).1)) i [])) = true) ∧ ((Val.Null (List.getD (List.getD (Tab.Rows ((DrawIndexed code).1)) i []) (Int.toNat ((DrawIndexed code).2.2)) Val.zero)) = false)))), ((((isTrue (dM code) (List.getD (Tab.Rows ((DrawIndexed code).1)) i [])) = true) ∧ ((Val.Null (List.getD (List.getD (Tab.Rows ((DrawIndexed code).1)) i []) (Int.toNat ((DrawIndexed code).2.2)) Val.zero)) = false)) → ((((isTrue (dM code) (List.getD (Tab.Rows ((DrawIndexed code).1)) i [])) = true) ∧ ((Val.Null (List.getD (List.getD (Tab.Rows ((DrawIndexed code).1)) i []) (Int.toNat ((DrawIndexed code).2.2)) Val.zero)) = false)))), (((isTrue (dM code) (List.getD (Tab.Rows ((DrawIndexed code).1)) i [])) = true) → (((isTrue (dM code) (List.getD (Tab.Rows ((DrawIndexed code).1)) i [])) = true))), (((isTrue (dM code) (List.getD (Tab.Rows ((DrawIndexed code).1)) i [])) = true) → (((Val.Null (List.getD (List.getD (Tab.Rows ((DrawIndexed code).1)) i []) (Int.toNat ((DrawIndexed code).2.2)) Val.zero)) = false) → ((((isTrue (dM code) (List.getD (Tab.Rows ((DrawIndexed code).1)) i [])) = true) ∧ ((Val.Null (List.getD (List.getD (Tab.Rows ((DrawIndexed code).1)) i []) (Int.toNat ((DrawIndexed code).2.2)) Val.zero)) = false))))), (((isTrue (dM code) (List.getD (Tab.Rows ((DrawIndexed code).1)) i [])) = true) → (((isTrue (dM code) (List.getD (Tab.Rows ((DrawIndexed code).1)) i [])) = true))), ((((isTrue (dM code) (List.getD (Tab.Rows ((DrawIndexed code).1)) i [])) = true) ∧ ((bif (Val.Null (List.getD (List.getD (Tab.Rows ((DrawIndexed code).1)) i []) (Int.toNat ((DrawIndexed code).2.2)) Val.zero)) then true else (decide ((Val.N (List.getD (List.getD (Tab.Rows ((DrawIndexed code).1)) i []) (Int.toNat ((DrawIndexed code).2.2)) Val.zero)) < (Rng.Low ((dI code).1))))) = false)) → ((((isTrue (dM code) (List.getD (Tab.Rows ((DrawIndexed code).1)) i [])) = true) ∧ ((bif (Val.Null (List.getD (List.getD (Tab.Rows ((DrawIndexed code).1)) i []) (Int.toNat ((DrawIndexed code).2.2)) Val.zero)) then true else (decide ((Val.N (List.getD (List.getD (Tab.Rows ((DrawIndexed code).1)) i []) (Int.toNat ((DrawIndexed code).2.2)) Val.zero)) < (Rng.Low ((dI code).1))))) = false)))), ((((isTrue (dM code) (List.getD (Tab.Rows ((DrawIndexed code).1)) i [])) = true) ∧ ((bif (Val.Null (List.getD (List.getD (Tab.Rows ((DrawIndexed code).1)) i []) (Int.toNat ((DrawIndexed code).2.2)) Val.zero)) then true else (decide ((Val.N (List.getD (List.getD (Tab.Rows ((DrawIndexed code).1)) i []) (Int.toNat ((DrawIndexed code).2.2)) Val.zero)) < (Rng.Low ((dI code).1))))) = false)) → ((((isTrue (dM code) (List.getD (Tab.Rows ((DrawIndexed code).1)) i [])) = true) ∧ ((bif (Val.Null (List.getD (List.getD (Tab.Rows ((DrawIndexed code).1)) i []) (Int.toNat ((DrawIndexed code).2.2)) Val.zero)) then true else (decide ((Val.N (List.getD (List.getD (Tab.Rows ((DrawIndexed code).1)) i []) (Int.toNat ((DrawIndexed code).2.2)) Val.zero)) < (Rng.Low ((dI code).1))))) = false)))), ((((isTrue (dM code) (List.getD (Tab.Rows ((DrawIndexed code).1)) i [])) = true) ∧ ((bif (Val.Null (List.getD (List.getD (Tab.Rows ((DrawIndexed code).1)) i []) (Int.toNat ((DrawIndexed code).2.2)) Val.zero)) then true else (decide ((Val.N (List.getD (List.getD (Tab.Rows ((DrawIndexed code).1)) i []) (Int.toNat ((DrawIndexed code).2.2)) Val.zero)) < (Rng.Low ((dI code).1))))) = false)) → ((((isTrue (dM code) (List.getD (Tab.Rows ((DrawIndexed code).1)) i [])) = true) ∧ ((bif (Val.Null (List.getD (List.getD (Tab.Rows ((DrawIndexed code).1)) i []) (Int.toNat ((DrawIndexed code).2.2)) Val.zero)) then true else (decide ((Val.N (List.getD (List.getD (Tab.Rows ((DrawIndexed code).1)) i []) (Int.toNat ((DrawIndexed code).2.2)) Val.zero)) < (Rng.Low ((dI code).1))))) = false)))), ((((isTrue (dM code) (List.getD (Tab.Rows ((DrawIndexed code).1)) i [])) = true) ∧ ((bif (Val.Null (List.getD (List.getD (Tab.Rows ((DrawIndexed code).1)) i []) (Int.toNat ((DrawIndexed code).2.2)) Val.zero)) then true else (decide ((Val.N (List.getD (List.getD (Tab.Rows ((DrawIndexed code).1)) i []) (Int.toNat ((DrawIndexed code).2.2)) Val.zero)) < (Rng.Low ((dI code).1))))) = false)) → ((((isTrue (dM code) (List.getD (Tab.Rows ((DrawIndexed code).1)) i [])) = true) ∧ ((bif (Val.Null (List.getD (List.getD (Tab.Rows ((DrawIndexed code).1)) i []) (Int.toNat ((DrawIndexed code).2.2)) Val.zero)) then true else (decide ((Val.N (List.getD (List.getD (Tab.Rows ((DrawIndexed code).1)) i []) (Int.toNat ((DrawIndexed code).2.2)) Val.zero)) < (Rng.Low ((dI code).1))))) = false)))), (((isTrue (dM code) (List.getD (Tab.Rows ((DrawIndexed code).1)) i [])) = true) → (((isTrue (dM code) (List.getD (Tab.Rows ((DrawIndexed code).1)) i [])) = true))), (((isTrue (dM code) (List.getD (Tab.Rows ((DrawIndexed code).1)) i [])) = true) → (((bif (Val.Null (List.getD (List.getD (Tab.Rows ((DrawIndexed code).1)) i []) (Int.toNat ((DrawIndexed code).2.2)) Val.zero)) then true else (decide ((Val.N (List.getD (List.getD (Tab.Rows ((DrawIndexed code).1)) i []) (Int.toNat ((DrawIndexed code).2.2)) Val.zero)) < (Rng.Low ((dI code).1))))) = false) → ((((isTrue (dM code) (List.getD (Tab.Rows ((DrawIndexed code).1)) i [])) = true) ∧ ((bif (Val.Null (List.getD (List.getD (Tab.Rows ((DrawIndexed code).1)) i []) (Int.toNat ((DrawIndexed code).2.2)) Val.zero)) then true else (decide ((Val.N (List.getD (List.getD (Tab.Rows ((DrawIndexed code).1)) i []) (Int.toNat ((DrawIndexed code).2.2)) Val.zero)) < (Rng.Low ((dI code).1))))) = false))))), (((isTrue (dM code) (List.getD (Tab.Rows ((DrawIndexed code).1)) i [])) = true) → (((isTrue (dM code) (List.getD (Tab.Rows ((DrawIndexed code).1)) i [])) = true)))] ?_ ?_)
      ·
       refine ⟨?_, ?_, ?_, ?_, ?_, ?_, ?_, ?_, ?_, ?_, ?_, ?_, ?_, ?_, ?_, ?_, ?_, ?_, trivial⟩
       ·
        refine IX.of ?_
        omega
       ·
        trivial
       ·
        intro g56
        have g56p0 : (isTrue (dM code) (List.getD (Tab.Rows ((DrawIndexed code).1)) i [])) = true := g56
        assumption
       ·
        intro g57
        have g57p0 : (isTrue (dM code) (List.getD (Tab.Rows ((DrawIndexed code).1)) i [])) = true := g57
        assumption
       ·
        intro g58
        have g58p0 : (isTrue (dM code) (List.getD (Tab.Rows ((DrawIndexed code).1)) i [])) = true := (g58).1
        have g58p1 : (Val.Null (List.getD (List.getD (Tab.Rows ((DrawIndexed code).1)) i []) (Int.toNat ((DrawIndexed code).2.2)) Val.zero)) = false := (g58).2
        assumption
       ·
        intro g59
        have g59p0 : (isTrue (dM code) (List.getD (Tab.Rows ((DrawIndexed code).1)) i [])) = true := (g59).1
        have g59p1 : (Val.Null (List.getD (List.getD (Tab.Rows ((DrawIndexed code).1)) i []) (Int.toNat ((DrawIndexed code).2.2)) Val.zero)) = false := (g59).2
        assumption
       ·
        intro g60
        have g60p0 : (isTrue (dM code) (List.getD (Tab.Rows ((DrawIndexed code).1)) i [])) = true := (g60).1
        have g60p1 : (Val.Null (List.getD (List.getD (Tab.Rows ((DrawIndexed code).1)) i []) (Int.toNat ((DrawIndexed code).2.2)) Val.zero)) = false := (g60).2
        assumption
       ·
        intro g61
        have g61p0 : (isTrue (dM code) (List.getD (Tab.Rows ((DrawIndexed code).1)) i [])) = true := (g61).1
        have g61p1 : (Val.Null (List.getD (List.getD (Tab.Rows ((DrawIndexed code).1)) i []) (Int.toNat ((DrawIndexed code).2.2)) Val.zero)) = false := (g61).2
        assumption
       ·
        intro g62
        have g62p0 : (isTrue (dM code) (List.getD (Tab.Rows ((DrawIndexed code).1)) i [])) = true := g62
        assumption
       ·
        intro g63
        have g63p0 : (isTrue (dM code) (List.getD (Tab.Rows ((DrawIndexed code).1)) i [])) = true := g63
        intro g64
        have g64p0 : (Val.Null (List.getD (List.getD (Tab.Rows ((DrawIndexed code).1)) i []) (Int.toNat ((DrawIndexed code).2.2)) Val.zero)) = false := g64
        exact ⟨by assumption, by assumption⟩
       ·
        intro g65
        have g65p0 : (isTrue (dM code) (List.getD (Tab.Rows ((DrawIndexed code).1)) i [])) = true := g65
        assumption
       ·
        intro g66
        have g66p0 : (isTrue (dM code) (List.getD (Tab.Rows ((DrawIndexed code).1)) i [])) = true := (g66).1
        have g66p1 : ((Val.Null (List.getD (List.getD (Tab.Rows ((DrawIndexed code).1)) i []) (Int.toNat ((DrawIndexed code).2.2)) Val.zero)) = false) ∧ (¬ ((Val.N (List.getD (List.getD (Tab.Rows ((DrawIndexed code).1)) i []) (Int.toNat ((DrawIndexed code).2.2)) Val.zero)) < (Rng.Low ((dI code).1)))) := (And.imp (fun h => h) (fun h => (of_decide_eq_false h)) (Go.Am.or_neg (g66).2))
        assumption
       ·
        intro g67
        have g67p0 : (isTrue (dM code) (List.getD (Tab.Rows ((DrawIndexed code).1)) i [])) = true := (g67).1
        have g67p1 : ((Val.Null (List.getD (List.getD (Tab.Rows ((DrawIndexed code).1)) i []) (Int.toNat ((DrawIndexed code).2.2)) Val.zero)) = false) ∧ (¬ ((Val.N (List.getD (List.getD (Tab.Rows ((DrawIndexed code).1)) i []) (Int.toNat ((DrawIndexed code).2.2)) Val.zero)) < (Rng.Low ((dI code).1)))) := (And.imp (fun h => h) (fun h => (of_decide_eq_false h)) (Go.Am.or_neg (g67).2))
        assumption
       ·
        intro g68
        have g68p0 : (isTrue (dM code) (List.getD (Tab.Rows ((DrawIndexed code).1)) i [])) = true := (g68).1
        have g68p1 : ((Val.Null (List.getD (List.getD (Tab.Rows ((DrawIndexed code).1)) i []) (Int.toNat ((DrawIndexed code).2.2)) Val.zero)) = false) ∧ (¬ ((Val.N (List.getD (List.getD (Tab.Rows ((DrawIndexed code).1)) i []) (Int.toNat ((DrawIndexed code).2.2)) Val.zero)) < (Rng.Low ((dI code).1)))) := (And.imp (fun h => h) (fun h => (of_decide_eq_false h)) (Go.Am.or_neg (g68).2))
        assumption
       ·
        intro g69
        have g69p0 : (isTrue (dM code) (List.getD (Tab.Rows ((DrawIndexed code).1)) i [])) = true := (g69).1
        have g69p1 : ((Val.Null (List.getD (List.getD (Tab.Rows ((DrawIndexed code).1)) i []) (Int.toNat ((DrawIndexed code).2.2)) Val.zero)) = false) ∧ (¬ ((Val.N (List.getD (List.getD (Tab.Rows ((DrawIndexed code).1)) i []) (Int.toNat ((DrawIndexed code).2.2)) Val.zero)) < (Rng.Low ((dI code).1)))) := (And.imp (fun h => h) (fun h => (of_decide_eq_false h)) (Go.Am.or_neg (g69).2))
        assumption
       ·
        intro g70
        have g70p0 : (isTrue (dM code) (List.getD (Tab.Rows ((DrawIndexed code).1)) i [])) = true := g70
        assumption
       ·
        intro g71
        have g71p0 : (isTrue (dM code) (List.getD (Tab.Rows ((DrawIndexed code).1)) i [])) = true := g71
        intro g72
        have g72p0 : ((Val.Null (List.getD (List.getD (Tab.Rows ((DrawIndexed code).1)) i []) (Int.toNat ((DrawIndexed code).2.2)) Val.zero)) = false) ∧ (¬ ((Val.N (List.getD (List.getD (Tab.Rows ((DrawIndexed code).1)) i []) (Int.toNat ((DrawIndexed code).2.2)) Val.zero)) < (Rng.Low ((dI code).1)))) := (And.imp (fun h => h) (fun h => (of_decide_eq_false h)) (Go.Am.or_neg g72))
        exact ⟨by assumption, by assumption⟩
       ·
        intro g73
        have g73p0 : (isTrue (dM code) (List.getD (Tab.Rows ((DrawIndexed code).1)) i [])) = true := g73
        assumption
      refine AW.cd (bif (isTrue (dM code) (List.getD (Tab.Rows ((DrawIndexed code).1)) i [])) then (bif (bif (Val.Null (List.getD (List.getD (Tab.Rows ((DrawIndexed code).1)) i []) (Int.toNat ((DrawIndexed code).2.2)) Val.zero)) then true else (decide ((Val.N (List.getD (List.getD (Tab.Rows ((DrawIndexed code).1)) i []) (Int.toNat ((DrawIndexed code).2.2)) Val.zero)) < (Rng.Low ((dI code).1))))) then true else (decide ((Rng.High ((dI code).1)) < (Val.N (List.getD (List.getD (Tab.Rows ((DrawIndexed code).1)) i []) (Int.toNat ((DrawIndexed code).2.2)) Val.zero))))) else false) ?_ ?_
      ·
       intro h74
       have h74q : ((isTrue (dM code) (List.getD (Tab.Rows ((DrawIndexed code).1)) i [])) = true) ∧ ((((Val.Null (List.getD (List.getD (Tab.Rows ((DrawIndexed code).1)) i []) (Int.toNat ((DrawIndexed code).2.2)) Val.zero)) = true) ∨ ((Val.N (List.getD (List.getD (Tab.Rows ((DrawIndexed code).1)) i []) (Int.toNat ((DrawIndexed code).2.2)) Val.zero)) < (Rng.Low ((dI code).1)))) ∨ ((Rng.High ((dI code).1)) < (Val.N (List.getD (List.getD (Tab.Rows ((DrawIndexed code).1)) i []) (Int.toNat ((DrawIndexed code).2.2)) Val.zero)))) := (And.imp (fun h => h) (fun h => (Or.imp (fun h => (Or.imp (fun h => h) (fun h => (of_decide_eq_true h)) (Go.Am.or_pos h))) (fun h => (of_decide_eq_true h)) (Go.Am.or_pos h))) (Go.Am.and_pos h74))
       have e75 := e55.trans (Go.Am.bif_t h74)
       refine AW.seq (AW.r1 hC [2] [] ⟨[(2, sB false)], []⟩ ?_)
       refine AW.ret ?_
       have e76 := e23.trans (Go.Am.elim_r e75)
       exact AW.rB false e76
      ·
       intro h77
       have h77q : ((isTrue (dM code) (List.getD (Tab.Rows ((DrawIndexed code).1)) i [])) = false) ∨ ((((Val.Null (List.getD (List.getD (Tab.Rows ((DrawIndexed code).1)) i []) (Int.toNat ((DrawIndexed code).2.2)) Val.zero)) = false) ∧ (¬ ((Val.N (List.getD (List.getD (Tab.Rows ((DrawIndexed code).1)) i []) (Int.toNat ((DrawIndexed code).2.2)) Val.zero)) < (Rng.Low ((dI code).1))))) ∧ (¬ ((Rng.High ((dI code).1)) < (Val.N (List.getD (List.getD (Tab.Rows ((DrawIndexed code).1)) i []) (Int.toNat ((DrawIndexed code).2.2)) Val.zero))))) := (Or.imp (fun h => h) (fun h => (And.imp (fun h => (And.imp (fun h => h) (fun h => (of_decide_eq_false h)) (Go.Am.or_neg h))) (fun h => (of_decide_eq_false h)) (Go.Am.or_neg h))) (Go.Am.and_neg h77))
       have e78 := e55.trans (Go.Am.bif_f h77)
       refine AW.kp [3, 4, 5, 6, 10] [12, 16, 24] ⟨[(3, .ref 12 1 0), (4, .ref 16 1 0), (5, sI ((DrawIndexed code).2.2)), (6, .ref 24 1 0), (10, sI ((i : Nat) : Int))], [(12, .box 1 [sI (Tab.Width ((DrawIndexed code).1)), sD12 (Tab.Rows ((DrawIndexed code).1))]), (16, .box 1 [sI (Xpr.Kind (dE code)), sI (Xpr.Col (dE code)), sB (Val.Null (Xpr.V (dE code))), sI (Val.N (Xpr.V (dE code))), sD11 (Xpr.Kids (dE code))]), (24, .box 1 [sI (Rng.Low ((dI code).1)), sI (Rng.High ((dI code).1))])]⟩ ?_
       refine AW.skip (AW.r0 hC [3, 4, 5, 6, 10] [12, 16, 24] ⟨[(3, .ref 12 1 0), (4, .ref 16 1 0), (5, sI ((DrawIndexed code).2.2)), (6, .ref 24 1 0), (10, sI ((i + 1 : Nat) : Int))], [(12, .box 1 [sI (Tab.Width ((DrawIndexed code).1)), sD12 (Tab.Rows ((DrawIndexed code).1))]), (16, .box 1 [sI (Xpr.Kind (dE code)), sI (Xpr.Col (dE code)), sB (Val.Null (Xpr.V (dE code))), sI (Val.N (Xpr.V (dE code))), sD11 (Xpr.Kids (dE code))]), (24, .box 1 [sI (Rng.Low ((dI code).1)), sI (Rng.High ((dI code).1))])]⟩ [R64 ((i + 1 : Nat) : Int)] ?_ ?_)
       ·
        refine ⟨?_, trivial⟩
        ·
         refine R64.of ?_
         omega
       refine AW.back (x := i) (i + 1) (by kernel_rfl) ⟨?_, k53q, ?_, e78⟩ ?_
       ·
        show True
        assumption
       ·
        show (List.length (Tab.Rows ((DrawIndexed code).1))) - (i + 1) < k53q
        omega
       ·
        show (List.length (Tab.Rows ((DrawIndexed code).1))) - (i + 1) < (List.length (Tab.Rows ((DrawIndexed code).1))) - i
        omega
     ·
      intro h79
      have h79q := (of_decide_eq_false h79)
      have e80 := e52.trans (Go.Am.bif_f h79)
      refine AW.kp [] [] ⟨[], []⟩ ?_
      refine AW.exit ?_
      refine AW.meet () (by kernel_rfl) ⟨?_, e80⟩
      show True
      assumption
   ·
    intro x hR
    obtain ⟨hJ0, e81⟩ := hR
    replace hJ0 : True := hJ0
    have e82 := e23.trans (Go.Am.elim_l e81)
    refine AW.seq (AW.r1 hC [2] [] ⟨[(2, sB true)], []⟩ ?_)
    exact AW.ret (AW.rB true e82)

theorem loopU {α : Type} (r0 : α) (L : Nat → Nat → Unit ⊕ α) (n : Nat) (bad : Nat → Bool)
  (hS : ∀ k i, L (k + 1) i = bif decide (((i : Nat) : Int) < ((n : Nat) : Int)) then (bif bad i then .inr r0 else L k (i + 1)) else .inl ()) (h : ∀ i, i < n → bad i = false) : L (n - 0 + 1) 0 = .inl () := by
 rcases all_loopG r0 L n bad hS (n - 0 + 1) 0 (by omega) with ⟨h1, _⟩ | ⟨_, j, _, hj, h2⟩
 ·
  exact h1
 ·
  rw [h j hj] at h2
  cases h2

def TV1 (v : Val) : Prop := v.Null = false ∧ v.N ≠ 0

theorem truthOf2 {v : Val} (h : truthOf v = 2) : TV1 v := by
 unfold truthOf at h
 cases hn : v.Null with
 | true => rw [hn, cond_true] at h; exact absurd h (by decide)
 | false =>
  rw [hn, cond_false] at h
  cases h0 : (v.N == 0) with
  | true => rw [h0, cond_true] at h; exact absurd h (by decide)
  | false => exact ⟨hn, by simpa using h0⟩

theorem truthValue_t {t : Int} (h : TV1 (truthValue t)) : t = 2 := by
 unfold truthValue flag inull inumber TV1 at h
 cases h1 : (t == 1) with
 | true => rw [h1, cond_true] at h; exact absurd h.1 (by decide)
 | false =>
  rw [h1, cond_false] at h
  cases h2 : (t == 2) with
  | true => simpa using h2
  | false => rw [h2] at h; exact absurd rfl h.2

theorem and_true {a b : Val} (h : TV1 (combined 8 a b)) : TV1 a ∧ TV1 b := by
 unfold combined at h
 have h := truthValue_t h
 have ha := truthOf_b a
 have hb := truthOf_b b
 exact ⟨truthOf2 (by split at h <;> omega), truthOf2 (by split at h <;> omega)⟩

theorem flag_t {b : Bool} (h : TV1 (flag b)) : b = true := by
 unfold flag inumber TV1 at h
 cases b with
 | true => rfl
 | false => exact absurd rfl h.2

theorem cmp_true {k : Int} {a b : Val} (hk : k = 6 ∨ k = 7) (h : TV1 (combined k a b)) : (a.Null = false ∧ b.Null = false) ∧ (k = 6 → a.N = b.N) ∧ (k = 7 → a.N < b.N) := by
 unfold combined at h
 rw [show (k == 8) = false from beq_false_of_ne (by omega), show (k == 9) = false from beq_false_of_ne (by omega), show (k == 3) = false from beq_false_of_ne (by omega), show (k == 4) = false from beq_false_of_ne (by omega), show (k == 5) = false from beq_false_of_ne (by omega)] at h
 simp only [cond_false] at h
 cases hn : (bif a.Null then true else b.Null) with
 | true => rw [hn, cond_true] at h; exact absurd h.1 (by decide)
 | false =>
  rw [hn, cond_false] at h
  refine ⟨or_neg hn, fun h6 => ?_, fun h7 => ?_⟩
  ·
   rw [show (k == 6) = true from beq_iff_eq.2 h6, cond_true] at h
   simpa using flag_t h
  ·
   rw [show (k == 6) = false from beq_false_of_ne (by omega), cond_false] at h
   simpa using flag_t h

theorem conj_true {row : List Val} : ∀ (f : Nat) (e : Xpr) (w : Int), VL w e → SizeOf.sizeOf e < f → TV1 (value_r f e row) → ∀ x ∈ conjuncts_r f e, ∃ g, SizeOf.sizeOf x < g ∧ TV1 (value_r g x row) := by
 intro f
 induction f with
 | zero => intro e w _ h; omega
 | succ f ih =>
  intro e w hv hf ht x hx
  have ht0 := ht
  unfold conjuncts_r at hx
  unfold value_r at ht
  cases hk : (e.Kind != 8) with
  | true =>
   rw [hk, cond_true, copyExpr_eq, Xpr.eta] at hx
   rw [List.mem_singleton.1 hx]
   exact ⟨f + 1, hf, ht0⟩
  | false =>
   have h8 := bne_neg hk
   have h2 := hv.two (by omega)
   rw [hk, cond_false] at hx
   rw [h8] at ht
   have ha := and_true ht
   have k0 := kid_lt (t := e) (i := 0) (by omega)
   have k1 := kid_lt (t := e) (i := 1) (by omega)
   rcases List.mem_append.1 hx with hx | hx
   ·
    exact ih _ w (hv.kid (i := 0) (by omega)) (by omega) ha.1 x hx
   ·
    exact ih _ w (hv.kid (i := 1) (by omega)) (by omega) ha.2 x hx

theorem kid_val {row : List Val} {f : Nat} {x : Xpr} {i : Nat} (hi : i < x.Kids.length) (hf : SizeOf.sizeOf x < f + 1) :
  ((x.Kids.getD i Xpr.zero).Kind = 1 → value_r f (x.Kids.getD i Xpr.zero) row = List.getD row (Int.toNat (x.Kids.getD i Xpr.zero).Col) Val.zero) ∧
  ((x.Kids.getD i Xpr.zero).Kind = 2 → value_r f (x.Kids.getD i Xpr.zero) row = (x.Kids.getD i Xpr.zero).V) := by
 have k0 := kid_lt hi
 obtain ⟨f, rfl⟩ : ∃ g, f = g + 1 := ⟨f - 1, by omega⟩
 constructor
 ·
  intro h
  unfold value_r
  rw [h]
  rfl
 ·
  intro h
  unfold value_r
  rw [h]
  rfl

theorem hasRange_cases {x : Xpr} {col : Int} (h : hasRange x col = true) : (x.Kind = 6 ∨ x.Kind = 7) ∧
  (((x.Kids.getD 0 Xpr.zero).Kind = 1 ∧ (x.Kids.getD 0 Xpr.zero).Col = col ∧ (x.Kids.getD 1 Xpr.zero).Kind = 2) ∨ ((x.Kids.getD 1 Xpr.zero).Kind = 1 ∧ (x.Kids.getD 1 Xpr.zero).Col = col ∧ (x.Kids.getD 0 Xpr.zero).Kind = 2)) := by
 unfold hasRange isColumn at h
 cases h1 : (bif ((Xpr.Kind x) != 6) then ((Xpr.Kind x) != 7) else false) with
 | true => rw [h1] at h; cases h
 | false =>
  rw [h1, cond_false] at h
  have hk : x.Kind = 6 ∨ x.Kind = 7 := by
   by_cases h6 : x.Kind = 6
   ·
    exact .inl h6
   ·
    rw [show (x.Kind != 6) = true by simpa using h6, cond_true] at h1
    exact .inr (bne_neg h1)
  refine ⟨hk, ?_⟩
  rcases or_pos h with h | h
  ·
   have h := and_pos h
   have h3 := and_pos h.1
   exact .inl ⟨by simpa using h3.1, by simpa using h3.2, by simpa using h.2⟩
  ·
   have h := and_pos h
   have h3 := and_pos h.1
   exact .inr ⟨by simpa using h3.1, by simpa using h3.2, by simpa using h.2⟩

theorem range_of {x : Xpr} {col : Int} {row : List Val} {g : Nat} {w : Int} (hv : VL w x) (hr : hasRange x col = true) (hf : SizeOf.sizeOf x < g) (ht : TV1 (value_r g x row)) (hb : VV (row.getD (Int.toNat col) Val.zero)) :
  (row.getD (Int.toNat col) Val.zero).Null = false ∧ (rangeOf x col).Low ≤ (row.getD (Int.toNat col) Val.zero).N ∧ (row.getD (Int.toNat col) Val.zero).N ≤ (rangeOf x col).High := by
 obtain ⟨g, rfl⟩ : ∃ k, g = k + 1 := ⟨g - 1, by omega⟩
 obtain ⟨hk, hc⟩ := hasRange_cases hr
 have h2 := hv.two (by omega)
 unfold value_r at ht
 rw [show (x.Kind == 1) = false from beq_false_of_ne (by omega), show (x.Kind == 2) = false from beq_false_of_ne (by omega), show (x.Kind == 10) = false from beq_false_of_ne (by omega), show (x.Kind == 11) = false from beq_false_of_ne (by omega)] at ht
 simp only [cond_false] at ht
 obtain ⟨hn, h6, h7⟩ := cmp_true hk ht
 have v0 := kid_val (row := row) (i := 0) (x := x) (by omega) hf
 have v1 := kid_val (row := row) (i := 1) (x := x) (by omega) hf
 have hbn := hb.n
 rcases hc with ⟨c1, c2, c3⟩ | ⟨c1, c2, c3⟩
 ·
  rw [v0.1 c1, v1.2 c3, c2] at hn h6 h7
  refine ⟨hn.1, ?_⟩
  clear v0 v1 ht
  generalize row.getD (Int.toNat col) Val.zero = v at *
  unfold rangeOf isColumn m0 m1
  generalize List.getD x.Kids 0 Xpr.zero = a at *
  generalize List.getD x.Kids 1 Xpr.zero = b at *
  generalize Xpr.Kind x = K at *
  obtain ⟨A, ca, ⟨na, va⟩, _⟩ := a
  obtain ⟨B, cb, ⟨nb, vb⟩, _⟩ := b
  simp only [Xpr.Kind, Xpr.Col, Xpr.V, Val.Null, Val.N] at c1 c2 c3 hn h6 h7 ⊢
  subst c1 c2 c3
  rw [hn.2]
  rcases hk with hk | hk
  ·
   have h6 := h6 hk
   subst hk
   simp [bne]
   omega
  ·
   have h7 := h7 hk
   subst hk
   simp [bne]
   omega
 ·
  rw [v1.1 c1, v0.2 c3, c2] at hn h6 h7
  refine ⟨hn.2, ?_⟩
  clear v0 v1 ht
  generalize row.getD (Int.toNat col) Val.zero = v at *
  unfold rangeOf isColumn m0 m1
  generalize List.getD x.Kids 0 Xpr.zero = a at *
  generalize List.getD x.Kids 1 Xpr.zero = b at *
  generalize Xpr.Kind x = K at *
  obtain ⟨A, ca, ⟨na, va⟩, _⟩ := a
  obtain ⟨B, cb, ⟨nb, vb⟩, _⟩ := b
  simp only [Xpr.Kind, Xpr.Col, Xpr.V, Val.Null, Val.N] at c1 c2 c3 hn h6 h7 ⊢
  subst c1 c2 c3
  rw [hn.1]
  rcases hk with hk | hk
  ·
   have h6 := h6 hk
   subst hk
   simp [bne]
   omega
  ·
   have h7 := h7 hk
   subst hk
   simp [bne]
   omega

theorem vis_fold {col v : Int} {x0 : Bool} : ∀ (l : List Xpr) (a b : Int) (f : Bool), a ≤ v ∧ v ≤ b → (∀ x ∈ l, hasRange x col = true → (rangeOf x col).Low ≤ v ∧ v ≤ (rangeOf x col).High) →
  (l.foldl (vis col) (a, b, f)).1 ≤ v ∧ v ≤ (l.foldl (vis col) (a, b, f)).2.1 := by
 intro l
 induction l with
 | nil => intro a b f h _; exact h
 | cons x l ih =>
  intro a b f h hl
  rw [List.foldl_cons]
  cases hr : hasRange x col with
  | false =>
   have : vis col (a, b, f) x = (a, b, f) := by unfold vis; rw [hr, cond_false]
   rw [this]
   exact ih a b f h fun y hy => hl y (List.mem_cons_of_mem _ hy)
  | true =>
   have : vis col (a, b, f) x = ((meet ⟨a, b⟩ (rangeOf x col)).Low, (meet ⟨a, b⟩ (rangeOf x col)).High, true) := by unfold vis; rw [hr, cond_true]
   rw [this]
   have hx := hl x (List.mem_cons_self ..) hr
   refine ih _ _ _ ?_ fun y hy => hl y (List.mem_cons_of_mem _ hy)
   unfold meet
   simp only
   refine ⟨?_, ?_⟩ <;> split <;> omega

theorem vis_found {col : Int} : ∀ (l : List Xpr) (a b : Int), (l.foldl (vis col) (a, b, false)).2.2 = true → ∃ x ∈ l, hasRange x col = true := by
 intro l
 induction l with
 | nil => intro a b h; cases h
 | cons x l ih =>
  intro a b h
  cases hr : hasRange x col with
  | true => exact ⟨x, List.mem_cons_self .., hr⟩
  | false =>
   rw [List.foldl_cons] at h
   have : vis col (a, b, false) x = (a, b, false) := by unfold vis; rw [hr, cond_false]
   rw [this] at h
   obtain ⟨y, hy, h⟩ := ih a b h
   exact ⟨y, List.mem_cons_of_mem _ hy, h⟩

theorem range_fold {e : Xpr} {w col : Int} (h : (iRangeOf e w col).2 = true) : ((conjuncts e).foldl (vis col) (-9999, 9999, false)).2.2 = true ∧ (iRangeOf e w col).1 = ⟨((conjuncts e).foldl (vis col) (-9999, 9999, false)).1, ((conjuncts e).foldl (vis col) (-9999, 9999, false)).2.1⟩ := by
 have hc := range_col h
 rw [range_eq] at h ⊢
 unfold RangeOf at h ⊢
 rw [Xpr.eta] at h ⊢
 cases hb : (bif (!(ValidExpr e w)) then true else (!(inRange col 0 (w - 1)))) with
 | true => rw [hb] at h; cases h
 | false =>
  rw [hb, cond_false] at h
  rw [cond_false]
  unfold Go.Am.andThen at h ⊢
  rw [spec_fold e col _ 0 false (-9999) 9999 (by omega), List.drop_zero] at h ⊢
  simp only at h ⊢
  cases hf : ((conjuncts e).foldl (vis col) (-9999, 9999, false)).2.2 with
  | false => rw [hf] at h; cases h
  | true => exact ⟨rfl, rfl⟩

theorem range_sound {e : Xpr} {w col : Int} {row : List Val} (h : (iRangeOf e w col).2 = true) (hl : ((row.length : Nat) : Int) = w) (hr : validRow row = true) (ht : isTrue e row = true) :
  (row.getD (Int.toNat col) Val.zero).Null = false ∧ (iRangeOf e w col).1.Low ≤ (row.getD (Int.toNat col) Val.zero).N ∧ (row.getD (Int.toNat col) Val.zero).N ≤ (iRangeOf e w col).1.High := by
 obtain ⟨⟨hw, hV⟩, hc⟩ := range_col h
 obtain ⟨hf, hR⟩ := range_fold h
 have hrow := validRow_iff.1 hr
 have hE := EvalExpr_eq hrow.1 hrow.2 (by rw [hl]; exact hV)
 unfold isTrue at ht
 rw [Xpr.eta, hE] at ht
 have h1 := and_pos ht
 have h2 := and_pos h1.1
 have hT : TV1 (value e row) := ⟨not_pos h2.2, bne_pos h1.2⟩
 have hall := conj_true (row := row) (SizeOf.sizeOf e + 1) e w ⟨8, Nat.le_refl _, hV⟩ (Nat.lt_succ_self _) hT
 have hb : VV (row.getD (Int.toNat col) Val.zero) := hrow.2 _ (by omega)
 have key : ∀ x ∈ conjuncts e, hasRange x col = true → (row.getD (Int.toNat col) Val.zero).Null = false ∧ (rangeOf x col).Low ≤ (row.getD (Int.toNat col) Val.zero).N ∧ (row.getD (Int.toNat col) Val.zero).N ≤ (rangeOf x col).High := by
  intro x hx hrx
  obtain ⟨g, hg, hgt⟩ := hall x hx
  exact range_of (conj_vl _ e ⟨8, Nat.le_refl _, hV⟩ x hx) hrx hg hgt hb
 obtain ⟨x, hx, hrx⟩ := vis_found _ _ _ hf
 refine ⟨(key x hx hrx).1, ?_⟩
 rw [hR]
 exact vis_fold (x0 := true) _ _ _ _ hb.n fun y hy hry => (key y hy hry).2

theorem FnRangeOf_law (code : List Int) : FnRangeOf code = true := by
 unfold FnRangeOf
 simp only [dI_eq, dR_eq]
 cases decide (1048576 < ((List.length code : Nat) : Int)) with
 | true => rfl
 | false =>
  rw [cond_false, ← range_eq]
  cases hc : (bif (bif (bif (bif (((iRangeOf ((DrawIndexed code).2.1) 2 ((DrawIndexed code).2.2)).2) != ((iRangeOf ((DrawIndexed code).2.1) 2 ((DrawIndexed code).2.2)).2)) then true else (!(bif ((Rng.Low ((iRangeOf ((DrawIndexed code).2.1) 2 ((DrawIndexed code).2.2)).1)) == (Rng.Low ((iRangeOf ((DrawIndexed code).2.1) 2 ((DrawIndexed code).2.2)).1))) then (bif ((Rng.High ((iRangeOf ((DrawIndexed code).2.1) 2 ((DrawIndexed code).2.2)).1)) == (Rng.High ((iRangeOf ((DrawIndexed code).2.1) 2 ((DrawIndexed code).2.2)).1))) then true else false) else false))) then true else (!((iRangeOf ((DrawIndexed code).2.1) 2 ((DrawIndexed code).2.2)).2))) then true else (!(ValidTable ((DrawIndexed code).1)))) then true else ((Tab.Width ((DrawIndexed code).1)) != 2)) with
  | true =>
   rw [cond_true]
   simp
  | false =>
   rw [cond_false]
   have h1 := or_neg hc
   have h2 := or_neg h1.1
   have h3 := or_neg h2.1
   have hw := bne_neg h1.2
   have hv := iValid_rows (not_neg h2.2)
   have hok := not_neg h3.2
   rw [loopU false (FnRangeOf_l0 code) (Tab.Rows ((DrawIndexed code).1)).length (fun i => bif (isTrue ((DrawIndexed code).2.1) (List.getD (Tab.Rows ((DrawIndexed code).1)) i [])) then (bif (bif (Val.Null (List.getD (List.getD (Tab.Rows ((DrawIndexed code).1)) i []) (Int.toNat ((DrawIndexed code).2.2)) Val.zero)) then true else (decide ((Val.N (List.getD (List.getD (Tab.Rows ((DrawIndexed code).1)) i []) (Int.toNat ((DrawIndexed code).2.2)) Val.zero)) < (Rng.Low ((iRangeOf ((DrawIndexed code).2.1) 2 ((DrawIndexed code).2.2)).1))))) then true else (decide ((Rng.High ((iRangeOf ((DrawIndexed code).2.1) 2 ((DrawIndexed code).2.2)).1)) < (Val.N (List.getD (List.getD (Tab.Rows ((DrawIndexed code).1)) i []) (Int.toNat ((DrawIndexed code).2.2)) Val.zero))))) else false)
    (fun k i => by
     conv => lhs; unfold FnRangeOf_l0
     simp only [dM_eq, dI_eq]) (fun i hi => by
     have hvi := hv i hi
     cases ht : isTrue ((DrawIndexed code).2.1) (List.getD (Tab.Rows ((DrawIndexed code).1)) i []) with
     | false => rfl
     | true =>
      obtain ⟨a, b, c⟩ := range_sound hok (hvi.1.trans hw) hvi.2 ht
      rw [cond_true, a, cond_false, decide_eq_false (by omega), cond_false, decide_eq_false (by omega)])]
   rfl

end
end Go.Proofs.Ytbgbekpbbcahpaa
