/-
  A part of the proof of this claim (ApT1): what functions of the program compute, and plain facts of that. No conditions.
-/
import Derived.Test.YtodcdgolcbdkgaaAp4
set_option linter.all false
namespace Go.Proofs.Ytodcdgolcbdkgaa
open Go Go.Am
noncomputable section

def VRw (row : List Val) : Prop := ∀ j, j < row.length → VV (row.getD j Val.zero)
def VXr (row : List Val) (e : Xpr) : Prop := VRw row ∧ ∃ l, VE ((row.length : Nat) : Int) l e

theorem VXr.kid {row : List Val} {e : Xpr} (h : VXr row e) {i : Nat} (hi : i < e.Kids.length) : VXr row (e.Kids.getD i Xpr.zero) := by
 obtain ⟨h1, l, h2⟩ := h
 exact ⟨h1, h2.kid hi⟩

theorem VXr.node {row : List Val} {e : Xpr} (h : VXr row e) : Node ((row.length : Nat) : Int) e := by
 obtain ⟨h1, l, h2⟩ := h
 exact h2.node

theorem VV.n {v : Val} (h : VV v) : -9999 ≤ v.N ∧ v.N ≤ 9999 := by
 unfold VV at h
 split at h
 ·
  omega
 ·
  exact h

theorem truthOf_b (v : Val) : 0 ≤ truthOf v ∧ truthOf v ≤ 2 := by
 unfold truthOf
 cases v.Null with
 | true => rw [cond_true]; decide
 | false =>
  rw [cond_false]
  cases (v.N == 0) <;> simp only [cond_true, cond_false] <;> decide

theorem truthValue_vv (t : Int) : VV (truthValue t) := by
 unfold truthValue flag inull inumber VV
 cases (t == 1) with
 | true => simp
 | false =>
  rw [cond_false]
  cases (t == 2) <;> simp

theorem flag_vv (b : Bool) : VV (flag b) := by
 unfold flag inumber VV
 cases b <;> simp

theorem numberOrNull_vv (n : Int) : VV (numberOrNull n) := by
 unfold numberOrNull
 cases h : valValid (inumber n) with
 | true => exact valValid_iff.1 h
 | false => exact (by unfold inull VV; simp)

theorem combined_vv (k : Int) (a b : Val) : VV (combined k a b) := by
 unfold combined
 cases (k == 8) with
 | true => exact truthValue_vv _
 | false =>
  rw [cond_false]
  cases (k == 9) with
  | true => exact truthValue_vv _
  | false =>
   rw [cond_false]
   cases (bif Val.Null a then true else Val.Null b) with
   | true => exact (by rw [cond_true]; unfold inull VV; simp)
   | false =>
    rw [cond_false]
    cases (k == 3) <;> cases (k == 4) <;> cases (k == 5) <;> cases (k == 6) <;> simp only [cond_true, cond_false] <;> first | exact numberOrNull_vv _ | exact flag_vv _

def value_r : Nat → Xpr → (List Val) → Val
 | 0, e, row => Val.zero
 | fuel + 1, e, row => (bif ((Xpr.Kind e) == 1) then (List.getD row (Int.toNat (Xpr.Col e)) Val.zero) else (bif ((Xpr.Kind e) == 2) then (Xpr.V e) else (bif ((Xpr.Kind e) == 10) then (truthValue (2 - (truthOf ((value_r fuel) (List.getD (Xpr.Kids e) 0 Xpr.zero) row)))) else (bif ((Xpr.Kind e) == 11) then (flag (Val.Null ((value_r fuel) (List.getD (Xpr.Kids e) 0 Xpr.zero) row))) else (combined (Xpr.Kind e) ((value_r fuel) (List.getD (Xpr.Kids e) 0 Xpr.zero) row) ((value_r fuel) (List.getD (Xpr.Kids e) 1 Xpr.zero) row))))))

def value (e : Xpr) (row : List Val) : Val := value_r (SizeOf.sizeOf e + 1) e row

def value_spn (fuel : Nat) : FnSpec := mkSpec [.rd (.named 1), .val (.slice (.named 0))] [.val (.named 0)] (fun (e : Xpr) (row : List Val) => (VXr row e) ∧ SizeOf.sizeOf e < fuel) (fun (e : Xpr) (row : List Val) => [⟨(.named 0), (value_r fuel e row)⟩])

def value_sp : FnSpec := mkSpec [.rd (.named 1), .val (.slice (.named 0))] [.val (.named 0)] (fun (e : Xpr) (row : List Val) => VXr row e) (fun (e : Xpr) (row : List Val) => [⟨(.named 0), (value e row)⟩])

theorem value_vv : ∀ (f : Nat) (e : Xpr) (row : List Val), VXr row e → VV (value_r f e row) := by
 intro f
 induction f with
 | zero => intro e row h; exact (by show VV Val.zero; unfold VV Val.zero; simp)
 | succ f ih =>
  intro e row h
  have hn := h.node
  unfold value_r
  by_cases h1 : e.Kind = 1
  ·
   rw [show (e.Kind == 1) = true from beq_iff_eq.2 h1, cond_true]
   have hc := hn.col h1
   exact h.1 _ (by omega)
  ·
   rw [show (e.Kind == 1) = false from beq_false_of_ne h1, cond_false]
   by_cases h2 : e.Kind = 2
   ·
    rw [show (e.Kind == 2) = true from beq_iff_eq.2 h2, cond_true]
    exact hn.val h2
   ·
    rw [show (e.Kind == 2) = false from beq_false_of_ne h2, cond_false]
    cases (e.Kind == 10) with
    | true => exact truthValue_vv _
    | false =>
     rw [cond_false]
     cases (e.Kind == 11) with
     | true => exact flag_vv _
     | false => exact combined_vv _ _ _

theorem value_okn (fuel : Nat) : FnOK Try.prog 134 (value_spn fuel) := by
 induction fuel with
 | zero => exact FnOK.never Try.func134 (by kernel_rfl) rfl (fun _ _ h => absurd h.2 (Nat.not_lt_zero _))
 | succ fuel ih => ?_
 have hC : CtxOK Try.prog (mkCtx tyL [(134, (value_spn fuel)), (135, truthOf_sp), (136, truthValue_sp), (160, flag_sp), (161, combined_sp)]) := CtxOK.cons ih (CtxOK.cons truthOf_ok (CtxOK.cons truthValue_ok (CtxOK.cons flag_ok (CtxOK.cons combined_ok (CtxOK.nil tyOK)))))
 have hM : Try.prog.follows .mixedOrders = true := Try.checked.mixed
 refine FnOK.of_body Try.func134 (by kernel_rfl) rfl (C := (mkCtx tyL [(134, (value_spn fuel)), (135, truthOf_sp), (136, truthValue_sp), (160, flag_sp), (161, combined_sp)])) hC.ty (by kernel_rfl) ?_
 intro (e : Xpr) (row : List Val) hwf hpre E
 have hpre : (VXr row e) ∧ SizeOf.sizeOf e < fuel + 1 := hpre
 have hw_e : Wf ⟨(.named 1), (e : Xpr)⟩ := hwf _ (List.Mem.head _)
 obtain ⟨hr_e_Kind, hr_e_Col, hl_e_Kids⟩ := Xpr.wfl hw_e
 have hw_row : Wf ⟨(.slice (.named 0)), (row : List Val)⟩ := hwf _ (List.Mem.tail _ (List.Mem.head _))
 have hl_row : ((List.length row : Nat) : Int) ≤ 9223372036854775807 := hw_row.len
 have hn := hpre.1.node
 have hnk := hn.kids
 have hkc := kids_cases (Xpr.Kind e)
 have hcol := hn.col
 have e0 : value_r (fuel + 1) e row = value_r (fuel + 1) e row := rfl
 refine AW.seq (AW.r1 hC [0, 1, 4] [16] ⟨[(0, sR3 e), (1, sD8 row), (4, .ref 16 1 0)], [(16, .box 1 [sB false, sI 0])]⟩ ?_)
 refine AW.seq (AW.seq (AW.r1 hC [0, 1, 4, 9] [16] ⟨[(0, sR3 e), (1, sD8 row), (4, .ref 16 1 0), (9, sI (Xpr.Kind e))], [(16, .box 1 [sB false, sI 0])]⟩ ?_))
 refine AW.block (AW.seq (AW.r1 hC [0, 1, 4, 9, 10] [16] ⟨[(0, sR3 e), (1, sD8 row), (4, .ref 16 1 0), (9, sI (Xpr.Kind e)), (10, sB ((Xpr.Kind e) == 1))], [(16, .box 1 [sB false, sI 0])]⟩ ?_))
 refine AW.cd ((Xpr.Kind e) == 1) ?_ ?_
 ·
  intro h1
  have h1q := (Go.Am.beq_pos h1)
  have e2 := e0.trans (Go.Am.bif_t h1)
  refine AW.seq (AW.r0 hC [4] [16] ⟨[(4, .ref 16 1 0)], [(16, .box 1 [sB (Val.Null (List.getD row (Int.toNat (Xpr.Col e)) Val.zero)), sI (Val.N (List.getD row (Int.toNat (Xpr.Col e)) Val.zero))])]⟩ [IX (Xpr.Col e) ((List.length row : Nat) : Int)] ?_ ?_)
  ·
   refine ⟨?_, trivial⟩
   ·
    refine IX.of ?_
    omega
  exact AW.ret (AW.retE (β := Val) (fun v => [⟨(.named 0), v⟩]) (fun v => []) (v := (List.getD row (Int.toNat (Xpr.Col e)) Val.zero)) e2 (by kernel_rfl) rfl rfl)
 ·
  intro h3
  have h3q := (Go.Am.beq_neg h3)
  have e4 := e0.trans (Go.Am.bif_f h3)
  refine AW.seq (AW.r1 hC [0, 1, 4, 19] [16] ⟨[(0, sR3 e), (1, sD8 row), (4, .ref 16 1 0), (19, sB ((Xpr.Kind e) == 2))], [(16, .box 1 [sB false, sI 0])]⟩ ?_)
  refine AW.cd ((Xpr.Kind e) == 2) ?_ ?_
  ·
   intro h5
   have h5q := (Go.Am.beq_pos h5)
   have e6 := e4.trans (Go.Am.bif_t h5)
   refine AW.seq (AW.r1 hC [4] [16] ⟨[(4, .ref 16 1 0)], [(16, .box 1 [sB (Val.Null (Xpr.V e)), sI (Val.N (Xpr.V e))])]⟩ ?_)
   exact AW.ret (AW.retE (β := Val) (fun v => [⟨(.named 0), v⟩]) (fun v => []) (v := (Xpr.V e)) e6 (by kernel_rfl) rfl rfl)
  ·
   intro h7
   have h7q := (Go.Am.beq_neg h7)
   have e8 := e4.trans (Go.Am.bif_f h7)
   refine AW.kp [0, 1, 4] [16] ⟨[(0, sR3 e), (1, sD8 row), (4, .ref 16 1 0)], [(16, .box 1 [sB false, sI 0])]⟩ ?_
   refine AW.skip (AW.seq (AW.r0 hC [0, 1, 4, 5] [16, 20] ⟨[(0, sR3 e), (1, sD8 row), (4, .ref 16 1 0), (5, .ref 20 1 0)], [(16, .box 1 [sB false, sI 0]), (20, .box 1 [sB (Val.Null ((value_r fuel) (List.getD (Xpr.Kids e) 0 Xpr.zero) row)), sI (Val.N ((value_r fuel) (List.getD (Xpr.Kids e) 0 Xpr.zero) row))])]⟩ [IX (0 : Int) ((List.length (Xpr.Kids e) : Nat) : Int), ((VXr row (List.getD (Xpr.Kids e) 0 Xpr.zero)) ∧ SizeOf.sizeOf (List.getD (Xpr.Kids e) 0 Xpr.zero) < fuel)] ?_ ?_))
   ·
    refine ⟨?_, ?_, trivial⟩
    ·
     refine IX.of ?_
     omega
    ·
     exact ⟨hpre.1.kid (by omega), Nat.lt_of_lt_of_le (kid_lt (by omega)) (Nat.le_of_lt_succ hpre.2)⟩
   refine AW.seq (AW.seq (AW.r1 hC [0, 1, 4, 5, 35] [16, 20] ⟨[(0, sR3 e), (1, sD8 row), (4, .ref 16 1 0), (5, .ref 20 1 0), (35, sI (Xpr.Kind e))], [(16, .box 1 [sB false, sI 0]), (20, .box 1 [sB (Val.Null ((value_r fuel) (List.getD (Xpr.Kids e) 0 Xpr.zero) row)), sI (Val.N ((value_r fuel) (List.getD (Xpr.Kids e) 0 Xpr.zero) row))])]⟩ ?_))
   refine AW.block (AW.seq (AW.r1 hC [0, 1, 4, 5, 35, 36] [16, 20] ⟨[(0, sR3 e), (1, sD8 row), (4, .ref 16 1 0), (5, .ref 20 1 0), (35, sI (Xpr.Kind e)), (36, sB ((Xpr.Kind e) == 10))], [(16, .box 1 [sB false, sI 0]), (20, .box 1 [sB (Val.Null ((value_r fuel) (List.getD (Xpr.Kids e) 0 Xpr.zero) row)), sI (Val.N ((value_r fuel) (List.getD (Xpr.Kids e) 0 Xpr.zero) row))])]⟩ ?_))
   refine AW.cd ((Xpr.Kind e) == 10) ?_ ?_
   ·
    intro h9
    have h9q := (Go.Am.beq_pos h9)
    have e10 := e8.trans (Go.Am.bif_t h9)
    refine AW.seq (AW.r0 hC [4] [16] ⟨[(4, .ref 16 1 0)], [(16, .box 1 [sB (Val.Null (truthValue (2 - (truthOf ((value_r fuel) (List.getD (Xpr.Kids e) 0 Xpr.zero) row))))), sI (Val.N (truthValue (2 - (truthOf ((value_r fuel) (List.getD (Xpr.Kids e) 0 Xpr.zero) row)))))])]⟩ [(True), R64 (2 - (truthOf ((value_r fuel) (List.getD (Xpr.Kids e) 0 Xpr.zero) row))), (True)] ?_ ?_)
    ·
     refine ⟨?_, ?_, ?_, trivial⟩
     ·
      trivial
     ·
      refine R64.of ?_
      have := truthOf_b ((value_r fuel) (List.getD (Xpr.Kids e) 0 Xpr.zero) row); omega
     ·
      trivial
    exact AW.ret (AW.retE (β := Val) (fun v => [⟨(.named 0), v⟩]) (fun v => []) (v := (truthValue (2 - (truthOf ((value_r fuel) (List.getD (Xpr.Kids e) 0 Xpr.zero) row))))) e10 (by kernel_rfl) rfl rfl)
   ·
    intro h11
    have h11q := (Go.Am.beq_neg h11)
    have e12 := e8.trans (Go.Am.bif_f h11)
    refine AW.seq (AW.r1 hC [0, 1, 4, 5, 42] [16, 20] ⟨[(0, sR3 e), (1, sD8 row), (4, .ref 16 1 0), (5, .ref 20 1 0), (42, sB ((Xpr.Kind e) == 11))], [(16, .box 1 [sB false, sI 0]), (20, .box 1 [sB (Val.Null ((value_r fuel) (List.getD (Xpr.Kids e) 0 Xpr.zero) row)), sI (Val.N ((value_r fuel) (List.getD (Xpr.Kids e) 0 Xpr.zero) row))])]⟩ ?_)
    refine AW.cd ((Xpr.Kind e) == 11) ?_ ?_
    ·
     intro h13
     have h13q := (Go.Am.beq_pos h13)
     have e14 := e12.trans (Go.Am.bif_t h13)
     refine AW.seq (AW.r0 hC [4] [16] ⟨[(4, .ref 16 1 0)], [(16, .box 1 [sB (Val.Null (flag (Val.Null ((value_r fuel) (List.getD (Xpr.Kids e) 0 Xpr.zero) row)))), sI (Val.N (flag (Val.Null ((value_r fuel) (List.getD (Xpr.Kids e) 0 Xpr.zero) row))))])]⟩ [(True)] ?_ ?_)
     ·
      refine ⟨?_, trivial⟩
      ·
       trivial
     exact AW.ret (AW.retE (β := Val) (fun v => [⟨(.named 0), v⟩]) (fun v => []) (v := (flag (Val.Null ((value_r fuel) (List.getD (Xpr.Kids e) 0 Xpr.zero) row)))) e14 (by kernel_rfl) rfl rfl)
    ·
     intro h15
     have h15q := (Go.Am.beq_neg h15)
     have e16 := e12.trans (Go.Am.bif_f h15)
     refine AW.kp [0, 1, 4, 5] [16, 20] ⟨[(0, sR3 e), (1, sD8 row), (4, .ref 16 1 0), (5, .ref 20 1 0)], [(16, .box 1 [sB false, sI 0]), (20, .box 1 [sB (Val.Null ((value_r fuel) (List.getD (Xpr.Kids e) 0 Xpr.zero) row)), sI (Val.N ((value_r fuel) (List.getD (Xpr.Kids e) 0 Xpr.zero) row))])]⟩ ?_
     refine AW.skip (AW.seq (AW.d0 hC hM [4] [16] ⟨[(4, .ref 16 1 0)], [(16, .box 1 [sB (Val.Null (combined (Xpr.Kind e) ((value_r fuel) (List.getD (Xpr.Kids e) 0 Xpr.zero) row) ((value_r fuel) (List.getD (Xpr.Kids e) 1 Xpr.zero) row))), sI (Val.N (combined (Xpr.Kind e) ((value_r fuel) (List.getD (Xpr.Kids e) 0 Xpr.zero) row) ((value_r fuel) (List.getD (Xpr.Kids e) 1 Xpr.zero) row)))])]⟩ [IX (1 : Int) ((List.length (Xpr.Kids e) : Nat) : Int), ((VXr row (List.getD (Xpr.Kids e) 1 Xpr.zero)) ∧ SizeOf.sizeOf (List.getD (Xpr.Kids e) 1 Xpr.zero) < fuel), (((-9999 ≤ Val.N ((value_r fuel) (List.getD (Xpr.Kids e) 0 Xpr.zero) row) ∧ Val.N ((value_r fuel) (List.getD (Xpr.Kids e) 0 Xpr.zero) row) ≤ 9999) ∧ (-9999 ≤ Val.N ((value_r fuel) (List.getD (Xpr.Kids e) 1 Xpr.zero) row) ∧ Val.N ((value_r fuel) (List.getD (Xpr.Kids e) 1 Xpr.zero) row) ≤ 9999)))] ?_ ?_))
     ·
      refine ⟨?_, ?_, ?_, trivial⟩
      ·
       refine IX.of ?_
       omega
      ·
       exact ⟨hpre.1.kid (by omega), Nat.lt_of_lt_of_le (kid_lt (by omega)) (Nat.le_of_lt_succ hpre.2)⟩
      ·
       exact ⟨(value_vv fuel _ _ (hpre.1.kid (by omega))).n, (value_vv fuel _ _ (hpre.1.kid (by omega))).n⟩
     exact AW.ret (AW.retE (β := Val) (fun v => [⟨(.named 0), v⟩]) (fun v => []) (v := (combined (Xpr.Kind e) ((value_r fuel) (List.getD (Xpr.Kids e) 0 Xpr.zero) row) ((value_r fuel) (List.getD (Xpr.Kids e) 1 Xpr.zero) row))) e16 (by kernel_rfl) rfl rfl)

theorem value_fu : AllTV (value_sp.ps.map PK.ty) (fun tvs => value_sp.pre tvs → ∃ k, (value_spn k).pre tvs ∧ (value_spn k).fn tvs = value_sp.fn tvs ∧ (value_spn k).bx tvs = value_sp.bx tvs) :=
 (fun (e : Xpr) (row : List Val) h => ⟨SizeOf.sizeOf e + 1, (show (VXr row e) ∧ SizeOf.sizeOf e < SizeOf.sizeOf e + 1 from ⟨h, Nat.lt_succ_self _⟩), (show (value_spn (SizeOf.sizeOf e + 1)).fn [⟨(.named 1), (e : Xpr)⟩, ⟨(.slice (.named 0)), (row : List Val)⟩] = ([⟨(.named 0), (value_r (SizeOf.sizeOf e + 1) e row)⟩] : List TV) from by kernel_rfl).trans (show ([⟨(.named 0), (value_r (SizeOf.sizeOf e + 1) e row)⟩] : List TV) = value_sp.fn [⟨(.named 1), (e : Xpr)⟩, ⟨(.slice (.named 0)), (row : List Val)⟩] from by kernel_rfl), by kernel_rfl⟩)

theorem value_ok : FnOK Try.prog 134 value_sp := FnOK.of_fuel value_okn (fun _ => rfl) (fun _ => rfl) (AllTV.get value_fu)

end
end Go.Proofs.Ytodcdgolcbdkgaa
