/-
  A part of the proof of this claim (ApK): what functions of the program compute, and plain facts of that. No conditions.
-/
import Derived.Test.YtodcdgolcbdkgaaApP
set_option linter.all false
namespace Go.Proofs.Ytodcdgolcbdkgaa
open Go Go.Am
noncomputable section

/-- A column of at most six. -/
def VC (e : Xpr) : Prop := ∃ w l, w ≤ 6 ∧ VE w l e

theorem VC.kid {e : Xpr} (h : VC e) {i : Nat} (hi : i < e.Kids.length) : VC (e.Kids.getD i Xpr.zero) := by
 obtain ⟨w, l, h1, h2⟩ := h
 obtain ⟨l', h3⟩ := h2.kid hi
 exact ⟨w, l', h1, h3⟩

theorem VC.col {e : Xpr} (h : VC e) (hk : e.Kind = 1) : 0 ≤ e.Col ∧ e.Col < 6 := by
 obtain ⟨w, l, h1, h2⟩ := h
 have := h2.node.col hk
 omega

theorem pow_lt6 {c : Int} (h : 0 ≤ c ∧ c < 6) : (1 : Int) ≤ 1 * 2 ^ c.toNat ∧ (1 : Int) * 2 ^ c.toNat ≤ 32 := by
 have : c = 0 ∨ c = 1 ∨ c = 2 ∨ c = 3 ∨ c = 4 ∨ c = 5 := by omega
 rcases this with rfl | rfl | rfl | rfl | rfl | rfl <;> decide

theorem pow_le6 {c : Int} (h : 0 ≤ c ∧ c ≤ 6) : (1 : Int) ≤ 1 * 2 ^ c.toNat ∧ (1 : Int) * 2 ^ c.toNat ≤ 64 := by
 have : c = 0 ∨ c = 1 ∨ c = 2 ∨ c = 3 ∨ c = 4 ∨ c = 5 ∨ c = 6 := by omega
 rcases this with rfl | rfl | rfl | rfl | rfl | rfl | rfl <;> decide

def columns_l0 (self : Xpr → Int) (e : Xpr) : Nat → Int → Nat → Int
 | 0, set_1, v20 => set_1
 | k + 1, set_1, v20 => (bif (decide (((v20 : Nat) : Int) < ((List.length (Xpr.Kids e) : Nat) : Int))) then (columns_l0 self e k (bits .or .i64 set_1 (self (List.getD (Xpr.Kids e) v20 Xpr.zero))) (v20 + 1)) else set_1)

def columns_r : Nat → Xpr → Int
 | 0, e => 0
 | fuel + 1, e => (bif ((Xpr.Kind e) == 1) then ((1 : Int) * 2 ^ (Int.toNat (Xpr.Col e))) else (Go.Am.andThen (columns_l0 (columns_r fuel) e ((List.length (Xpr.Kids e)) - 0 + 1) 0 0) (fun z => (fun (set_1 : Int) => set_1) z)))

def columns (e : Xpr) : Int := columns_r (SizeOf.sizeOf e + 1) e

def columns_spn (fuel : Nat) : FnSpec := mkSpec [.rd (.named 1)] [.val (.int .i64)] (fun (e : Xpr) => (VC e) ∧ SizeOf.sizeOf e < fuel) (fun (e : Xpr) => [⟨(.int .i64), (columns_r fuel e)⟩])

def columns_sp : FnSpec := mkSpec [.rd (.named 1)] [.val (.int .i64)] (fun (e : Xpr) => VC e) (fun (e : Xpr) => [⟨(.int .i64), (columns e)⟩])

theorem columns_okn (fuel : Nat) : FnOK Try.prog 122 (columns_spn fuel) := by
 induction fuel with
 | zero => exact FnOK.never Try.func122 (by kernel_rfl) rfl (fun _ h => absurd h.2 (Nat.not_lt_zero _))
 | succ fuel ih => ?_
 have hC : CtxOK Try.prog (mkCtx tyL [(122, (columns_spn fuel))]) := CtxOK.cons ih (CtxOK.nil tyOK)
 refine FnOK.of_body Try.func122 (by kernel_rfl) rfl (C := (mkCtx tyL [(122, (columns_spn fuel))])) hC.ty (by kernel_rfl) ?_
 intro (e : Xpr) hwf hpre E
 have hpre : (VC e) ∧ SizeOf.sizeOf e < fuel + 1 := hpre
 have hw_e : Wf ⟨(.named 1), (e : Xpr)⟩ := hwf _ (List.Mem.head _)
 have hr_e_Kind : -9223372036854775808 ≤ Xpr.Kind e ∧ Xpr.Kind e ≤ 9223372036854775807 := (hw_e.field (tv := ⟨(.int .i64), Xpr.Kind e⟩) (List.Mem.head _)).int_inv
 have hr_e_Col : -9223372036854775808 ≤ Xpr.Col e ∧ Xpr.Col e ≤ 9223372036854775807 := (hw_e.field (tv := ⟨(.int .i64), Xpr.Col e⟩) (List.Mem.tail _ (List.Mem.head _))).int_inv
 have hl_e_Kids : ((List.length (Xpr.Kids e) : Nat) : Int) ≤ 9223372036854775807 := (hw_e.field (tv := ⟨(.slice (.named 1)), Xpr.Kids e⟩) (List.Mem.tail _ (List.Mem.tail _ (List.Mem.tail _ (List.Mem.head _))))).len
 have e0 : columns_r (fuel + 1) e = columns_r (fuel + 1) e := rfl
 refine AW.seq ?_
 refine AW.reg hC  false [] [0] []
  ⟨[(0, .dref (.named 1) (e : Xpr))], []⟩
  [] (by kernel_rfl) ?_ ?_
 ·
  exact trivial
 refine AW.seq ?_
 refine AW.seq ?_
 refine AW.reg hC  false [] [0, 9] []
  ⟨[(0, .dref (.named 1) (e : Xpr)), (9, .bool ((Xpr.Kind e) == 1))], []⟩
  [] (by kernel_rfl) ?_ ?_
 ·
  exact trivial
 refine AW.cond (b := ((Xpr.Kind e) == 1)) (by kernel_rfl) ?_ ?_
 ·
  intro h1
  have h1q : (Xpr.Kind e) = 1 := (Go.Am.beq_pos h1)
  have e2 := e0.trans (Go.Am.bif_t h1)
  refine AW.seq ?_
  refine AW.reg hC  false [] [2] []
   ⟨[(2, .int .i64 ((1 : Int) * 2 ^ (Int.toNat (Xpr.Col e))))], []⟩
   [(0 ≤ (Xpr.Col e) ∧ (Xpr.Col e) ≤ 64), (-9223372036854775808 ≤ ((1 : Int) * 2 ^ (Int.toNat (Xpr.Col e))) ∧ ((1 : Int) * 2 ^ (Int.toNat (Xpr.Col e))) ≤ 9223372036854775807)] (by kernel_rfl) ?_ ?_
  ·
   refine ⟨?_, ?_, trivial⟩
   ·
    have hc := hpre.1.col (by omega)
    have := pow_lt6 hc
    omega
   ·
    have hc := hpre.1.col (by omega)
    have := pow_lt6 hc
    omega
  refine AW.ret ?_
  exact AW.retE (β := Int) (fun v => [⟨(.int .i64), v⟩]) (fun v => []) (v := ((1 : Int) * 2 ^ (Int.toNat (Xpr.Col e)))) e2 (by kernel_rfl) rfl rfl
 ·
  intro h3
  have h3q : (Xpr.Kind e) ≠ 1 := (Go.Am.beq_neg h3)
  have e4 := e0.trans (Go.Am.bif_f h3)
  refine AW.keep [0] [] ⟨[(0, .dref (.named 1) (e : Xpr))], []⟩ (by kernel_rfl) ?_
  refine AW.skip ?_
  refine AW.seq ?_
  refine AW.reg hC  false [] [0, 3] []
   ⟨[(0, .dref (.named 1) (e : Xpr)), (3, .int .i64 0)], []⟩
   [] (by kernel_rfl) ?_ ?_
  ·
   exact trivial
  refine AW.seq ?_
  refine AW.seq ?_
  refine AW.reg hC  false [] [0, 3, 19, 20] []
   ⟨[(0, .dref (.named 1) (e : Xpr)), (3, .int .i64 0), (19, .int .i64 ((List.length (Xpr.Kids e) : Nat) : Int)), (20, .int .i64 0)], []⟩
   [] (by kernel_rfl) ?_ ?_
  ·
   exact trivial
  refine AW.cutQ (α := Int) (fun x => ⟨[(3, .int .i64 x)], []⟩) (fun x => (True) ∧ (columns_l0 (columns_r fuel) e ((List.length (Xpr.Kids e)) - 0 + 1) 0 0) = x) ?_ ?_
  ·
   skip
   refine AW.block ?_
   refine AW.loop (α := Int × Nat) (fun x => ⟨[(0, .dref (.named 1) (e : Xpr)), (3, .int .i64 x.1), (19, .int .i64 ((List.length (Xpr.Kids e) : Nat) : Int)), (20, .int .i64 ((x.2 : Nat) : Int))], []⟩) (fun x => (True) ∧ ∃ k, (List.length (Xpr.Kids e)) - x.2 < k ∧ (columns_l0 (columns_r fuel) e ((List.length (Xpr.Kids e)) - 0 + 1) 0 0) = columns_l0 (columns_r fuel) e k x.1 x.2) (fun x => (List.length (Xpr.Kids e)) - x.2) (0, 0) (by kernel_rfl) ⟨?_, _, Nat.lt_succ_self _, rfl⟩ ?_
   ·
    show True
    first | exact trivial | (refine ⟨?_, ?_⟩ <;> first | omega | simp) | omega | simp
   ·
    intro x hR
    obtain ⟨set_1, v20⟩ := x
    obtain ⟨hI0, k23, hk21, e22⟩ := hR
    replace hI0 : True := hI0
    replace hk21 : (List.length (Xpr.Kids e)) - v20 < k23 := hk21
    obtain ⟨k23q, rfl⟩ : ∃ k, k23 = k + 1 := ⟨k23 - 1, by omega⟩
    refine AW.seq ?_
    refine AW.reg hC  false [] [0, 3, 19, 20, 21] []
     ⟨[(0, .dref (.named 1) (e : Xpr)), (3, .int .i64 set_1), (19, .int .i64 ((List.length (Xpr.Kids e) : Nat) : Int)), (20, .int .i64 ((v20 : Nat) : Int)), (21, .bool (decide (((v20 : Nat) : Int) < ((List.length (Xpr.Kids e) : Nat) : Int))))], []⟩
     [] (by kernel_rfl) ?_ ?_
    ·
     exact trivial
    refine AW.seq ?_
    refine AW.cond (b := (decide (((v20 : Nat) : Int) < ((List.length (Xpr.Kids e) : Nat) : Int)))) (by kernel_rfl) ?_ ?_
    ·
     intro h24
     have h24q : ((v20 : Nat) : Int) < ((List.length (Xpr.Kids e) : Nat) : Int) := (of_decide_eq_true h24)
     have e25 := e22.trans (Go.Am.bif_t h24)
     refine AW.keep [0, 3, 19, 20] [] ⟨[(0, .dref (.named 1) (e : Xpr)), (3, .int .i64 set_1), (19, .int .i64 ((List.length (Xpr.Kids e) : Nat) : Int)), (20, .int .i64 ((v20 : Nat) : Int))], []⟩ (by kernel_rfl) ?_
     refine AW.skip ?_
     refine AW.seq ?_
     refine AW.block ?_
     refine AW.seq ?_
     refine AW.reg hC  false [] [0, 3, 4, 19, 20] []
      ⟨[(0, .dref (.named 1) (e : Xpr)), (3, .int .i64 set_1), (4, .int .i64 ((v20 : Nat) : Int)), (19, .int .i64 ((List.length (Xpr.Kids e) : Nat) : Int)), (20, .int .i64 ((v20 : Nat) : Int))], []⟩
      [] (by kernel_rfl) ?_ ?_
     ·
      exact trivial
     refine AW.reg hC  false [] [0, 3, 19, 20] []
      ⟨[(0, .dref (.named 1) (e : Xpr)), (3, .int .i64 (bits .or .i64 set_1 ((columns_r fuel) (List.getD (Xpr.Kids e) v20 Xpr.zero)))), (19, .int .i64 ((List.length (Xpr.Kids e) : Nat) : Int)), (20, .int .i64 ((v20 : Nat) : Int))], []⟩
      [(0 ≤ ((v20 : Nat) : Int) ∧ ((v20 : Nat) : Int) < ((List.length (Xpr.Kids e) : Nat) : Int)), ((VC (List.getD (Xpr.Kids e) v20 Xpr.zero)) ∧ SizeOf.sizeOf (List.getD (Xpr.Kids e) v20 Xpr.zero) < fuel)] (by kernel_rfl) ?_ ?_
     ·
      refine ⟨?_, ?_, trivial⟩
      ·
       first | omega | (dsimp only; omega) | (simp only [lens] at *; omega)
      ·
       exact ⟨hpre.1.kid (by omega), Nat.lt_of_lt_of_le (kid_lt (by omega)) (Nat.le_of_lt_succ hpre.2)⟩
     refine AW.reg hC  false [] [0, 3, 19, 20] []
      ⟨[(0, .dref (.named 1) (e : Xpr)), (3, .int .i64 (bits .or .i64 set_1 ((columns_r fuel) (List.getD (Xpr.Kids e) v20 Xpr.zero)))), (19, .int .i64 ((List.length (Xpr.Kids e) : Nat) : Int)), (20, .int .i64 ((v20 + 1 : Nat) : Int))], []⟩
      [(-9223372036854775808 ≤ ((v20 + 1 : Nat) : Int) ∧ ((v20 + 1 : Nat) : Int) ≤ 9223372036854775807)] (by kernel_rfl) ?_ ?_
     ·
      refine ⟨?_, trivial⟩
      ·
       first | omega | (dsimp only; omega) | (simp only [lens] at *; omega)
     refine AW.back (x := (set_1, v20)) ((bits .or .i64 set_1 ((columns_r fuel) (List.getD (Xpr.Kids e) v20 Xpr.zero))), v20 + 1) (by kernel_rfl) ⟨?_, k23q, ?_, e25⟩ ?_
     ·
      show True
      first | assumption | exact trivial | (refine ⟨?_, ?_⟩ <;> first | omega | (simp only [lens] at *; omega)) | omega | (simp only [lens] at *; omega)
     ·
      show (List.length (Xpr.Kids e)) - (v20 + 1) < k23q
      first | omega | (simp only [lens]; omega)
     ·
      show (List.length (Xpr.Kids e)) - (v20 + 1) < (List.length (Xpr.Kids e)) - v20
      first | omega | (simp only [lens]; omega)
    ·
     intro h26
     have h26q : ¬ (((v20 : Nat) : Int) < ((List.length (Xpr.Kids e) : Nat) : Int)) := (of_decide_eq_false h26)
     have e27 := e22.trans (Go.Am.bif_f h26)
     refine AW.keep [3] [] ⟨[(3, .int .i64 set_1)], []⟩ (by kernel_rfl) ?_
     refine AW.exit ?_
     refine AW.meet set_1 (by kernel_rfl) ⟨?_, e27⟩
     show True
     first | assumption | exact trivial | omega
  ·
   intro set_1 hR
   obtain ⟨hJ0, e28⟩ := hR
   replace hJ0 : True := hJ0
   have e29 := e4.trans (Go.Am.then_eq e28)
   refine AW.seq ?_
   refine AW.reg hC  false [] [2] []
    ⟨[(2, .int .i64 set_1)], []⟩
    [] (by kernel_rfl) ?_ ?_
   ·
    exact trivial
   refine AW.ret ?_
   exact AW.retE (β := Int) (fun v => [⟨(.int .i64), v⟩]) (fun v => []) (v := set_1) e29 (by kernel_rfl) rfl rfl

theorem columns_fu : AllTV (columns_sp.ps.map PK.ty) (fun tvs => columns_sp.pre tvs → ∃ k, (columns_spn k).pre tvs ∧ (columns_spn k).fn tvs = columns_sp.fn tvs ∧ (columns_spn k).bx tvs = columns_sp.bx tvs) :=
 (fun (e : Xpr) h => ⟨SizeOf.sizeOf e + 1, (show (VC e) ∧ SizeOf.sizeOf e < SizeOf.sizeOf e + 1 from ⟨h, Nat.lt_succ_self _⟩), (show (columns_spn (SizeOf.sizeOf e + 1)).fn [⟨(.named 1), (e : Xpr)⟩] = ([⟨(.int .i64), (columns_r (SizeOf.sizeOf e + 1) e)⟩] : List TV) from by kernel_rfl).trans (show ([⟨(.int .i64), (columns_r (SizeOf.sizeOf e + 1) e)⟩] : List TV) = columns_sp.fn [⟨(.named 1), (e : Xpr)⟩] from by kernel_rfl), by kernel_rfl⟩)

theorem columns_ok : FnOK Try.prog 122 columns_sp := FnOK.of_fuel columns_okn (fun _ => rfl) (fun _ => rfl) (AllTV.get columns_fu)

/-- A plan valid for widths and sets. -/
def PS (ws : List Int) (sets : List Bool) (p : Pln) : Prop := PVw ws p ∧ sets.length = ws.length

theorem PS.kid {ws : List Int} {sets : List Bool} {p : Pln} (h : PS ws sets p) {i : Nat} (hi : i < p.Kids.length) : PS ws sets (p.Kids.getD i Pln.zero) := ⟨h.1.kid hi, h.2⟩

theorem PVw.vc {p : Pln} {ws : List Int} (h : PVw ws p) (hk : p.Kind = 3) {i : Nat} (hi : i < p.Exprs.length) : VC (p.Exprs.getD i Xpr.zero) := by
 have := ValidExpr_iff.1 (allv_iff.1 (h.exprs.1 (.inr hk)) i hi)
 exact ⟨_, 8, this.1.2, this.2⟩

def idupFree_j0 (p : Pln) : Bool :=
 (bif ((Pln.Kind p) == 7) then ((Pln.Kind p) == 7) else ((Pln.Kind p) == 8))

def idupFree_l0 (self : Pln → (List Int) → (List Bool) → Bool) (p : Pln) (ws : List Int) (sets : List Bool) : Nat → Nat → Unit ⊕ Bool
 | 0, v33 => .inl ()
 | k + 1, v33 => (bif (decide (((v33 : Nat) : Int) < ((List.length (Pln.Kids p) : Nat) : Int))) then (bif (!(self (List.getD (Pln.Kids p) v33 Pln.zero) ws sets)) then (.inr false) else (idupFree_l0 self p ws sets k (v33 + 1))) else (.inl ()))

def idupFree_j1 (p : Pln) (found1 : Int) (v57 : Nat) : Int :=
 (bif ((Xpr.Kind (List.getD (Pln.Exprs p) v57 Xpr.zero)) == 1) then (bits .or .i64 found1 (columns (List.getD (Pln.Exprs p) v57 Xpr.zero))) else found1)

def idupFree_l1 (p : Pln) : Nat → Int → Nat → Int
 | 0, found1, v57 => found1
 | k + 1, found1, v57 => (bif (decide (((v57 : Nat) : Int) < ((List.length (Pln.Exprs p) : Nat) : Int))) then (Go.Am.andThen (idupFree_j1 p found1 v57) (fun z => (fun (found : Int) => (idupFree_l1 p k found (v57 + 1))) z)) else found1)

def idupFree_r : Nat → Pln → (List Int) → (List Bool) → Bool
 | 0, p, ws, sets => false
 | fuel + 1, p, ws, sets => (bif ((Pln.Kind p) == 1) then (List.getD sets (Int.toNat (Pln.Table p)) false) else (Go.Am.andThen (idupFree_j0 p) (fun z => (fun (v23 : Bool) => (bif v23 then true else (bif ((Pln.Kind p) == 6) then false else (Sum.elim (fun _ => (bif ((Pln.Kind p) != 3) then true else (Go.Am.andThen (idupFree_l1 p ((List.length (Pln.Exprs p)) - 0 + 1) 0 0) (fun z => (fun (found1 : Int) => (found1 == (((1 : Int) * 2 ^ (Int.toNat (iPlanWidth (List.getD (Pln.Kids p) 0 Pln.zero) ws))) - 1))) z)))) (fun r => r) (idupFree_l0 (idupFree_r fuel) p ws sets ((List.length (Pln.Kids p)) - 0 + 1) 0))))) z)))

def idupFree (p : Pln) (ws : List Int) (sets : List Bool) : Bool := idupFree_r (SizeOf.sizeOf p + 1) p ws sets

def idupFree_spn (fuel : Nat) : FnSpec := mkSpec [.rd (.named 2), .val (.slice (.int .i64)), .val (.slice .bool)] [.val .bool] (fun (p : Pln) (ws : List Int) (sets : List Bool) => (PS ws sets p) ∧ SizeOf.sizeOf p < fuel) (fun (p : Pln) (ws : List Int) (sets : List Bool) => [⟨.bool, (idupFree_r fuel p ws sets)⟩])

def idupFree_sp : FnSpec := mkSpec [.rd (.named 2), .val (.slice (.int .i64)), .val (.slice .bool)] [.val .bool] (fun (p : Pln) (ws : List Int) (sets : List Bool) => PS ws sets p) (fun (p : Pln) (ws : List Int) (sets : List Bool) => [⟨.bool, (idupFree p ws sets)⟩])

theorem idupFree_okn (fuel : Nat) : FnOK Try.prog 87 (idupFree_spn fuel) := by
 induction fuel with
 | zero => exact FnOK.never Try.func87 (by kernel_rfl) rfl (fun _ _ _ h => absurd h.2 (Nat.not_lt_zero _))
 | succ fuel ih => ?_
 have hC : CtxOK Try.prog (mkCtx tyL [(54, iPlanWidth_sp), (87, (idupFree_spn fuel)), (122, columns_sp)]) := CtxOK.cons iPlanWidth_ok (CtxOK.cons ih (CtxOK.cons columns_ok (CtxOK.nil tyOK)))
 have hM : Try.prog.follows .mixedOrders = true := Try.checked.mixed
 refine FnOK.of_body Try.func87 (by kernel_rfl) rfl (C := (mkCtx tyL [(54, iPlanWidth_sp), (87, (idupFree_spn fuel)), (122, columns_sp)])) hC.ty (by kernel_rfl) ?_
 intro (p : Pln) (ws : List Int) (sets : List Bool) hwf hpre E
 have hpre : (PS ws sets p) ∧ SizeOf.sizeOf p < fuel + 1 := hpre
 have hw_p : Wf ⟨(.named 2), (p : Pln)⟩ := hwf _ (List.Mem.head _)
 have hr_p_Kind : -9223372036854775808 ≤ Pln.Kind p ∧ Pln.Kind p ≤ 9223372036854775807 := (hw_p.field (tv := ⟨(.int .i64), Pln.Kind p⟩) (List.Mem.head _)).int_inv
 have hr_p_Table : -9223372036854775808 ≤ Pln.Table p ∧ Pln.Table p ≤ 9223372036854775807 := (hw_p.field (tv := ⟨(.int .i64), Pln.Table p⟩) (List.Mem.tail _ (List.Mem.head _))).int_inv
 have hl_p_Exprs : ((List.length (Pln.Exprs p) : Nat) : Int) ≤ 9223372036854775807 := (hw_p.field (tv := ⟨(.slice (.named 1)), Pln.Exprs p⟩) (List.Mem.tail _ (List.Mem.tail _ (List.Mem.head _)))).len
 have hl_p_Cols : ((List.length (Pln.Cols p) : Nat) : Int) ≤ 9223372036854775807 := (hw_p.field (tv := ⟨(.slice (.int .i64)), Pln.Cols p⟩) (List.Mem.tail _ (List.Mem.tail _ (List.Mem.tail _ (List.Mem.head _))))).len
 have hl_p_Kids : ((List.length (Pln.Kids p) : Nat) : Int) ≤ 9223372036854775807 := (hw_p.field (tv := ⟨(.slice (.named 2)), Pln.Kids p⟩) (List.Mem.tail _ (List.Mem.tail _ (List.Mem.tail _ (List.Mem.tail _ (List.Mem.head _)))))).len
 have hw_ws : Wf ⟨(.slice (.int .i64)), (ws : List Int)⟩ := hwf _ (List.Mem.tail _ (List.Mem.head _))
 have hl_ws : ((List.length ws : Nat) : Int) ≤ 9223372036854775807 := hw_ws.len
 have hw_sets : Wf ⟨(.slice .bool), (sets : List Bool)⟩ := hwf _ (List.Mem.tail _ (List.Mem.tail _ (List.Mem.head _)))
 have hl_sets : ((List.length sets : Nat) : Int) ≤ 9223372036854775807 := hw_sets.len
 obtain ⟨hO, hT, -⟩ := hpre.1.1.pvn.of
 have hpc := parts2 (Pln.Kind p)
 have hOk := hO.kids
 have hOc := hO.kind
 have hSl := hpre.1.2
 have e0 : idupFree_r (fuel + 1) p ws sets = idupFree_r (fuel + 1) p ws sets := rfl
 refine AW.seq ?_
 refine AW.reg hC  false [] [0, 1, 2] []
  ⟨[(0, .dref (.named 2) (p : Pln)), (1, .data (.slice (.int .i64)) (ws : List Int)), (2, .data (.slice .bool) (sets : List Bool))], []⟩
  [] (by kernel_rfl) ?_ ?_
 ·
  exact trivial
 refine AW.seq ?_
 refine AW.seq ?_
 refine AW.reg hC  false [] [0, 1, 2, 13] []
  ⟨[(0, .dref (.named 2) (p : Pln)), (1, .data (.slice (.int .i64)) (ws : List Int)), (2, .data (.slice .bool) (sets : List Bool)), (13, .int .i64 (Pln.Kind p))], []⟩
  [] (by kernel_rfl) ?_ ?_
 ·
  exact trivial
 refine AW.block ?_
 refine AW.seq ?_
 refine AW.reg hC  false [] [0, 1, 2, 13, 14] []
  ⟨[(0, .dref (.named 2) (p : Pln)), (1, .data (.slice (.int .i64)) (ws : List Int)), (2, .data (.slice .bool) (sets : List Bool)), (13, .int .i64 (Pln.Kind p)), (14, .bool ((Pln.Kind p) == 1))], []⟩
  [] (by kernel_rfl) ?_ ?_
 ·
  exact trivial
 refine AW.cond (b := ((Pln.Kind p) == 1)) (by kernel_rfl) ?_ ?_
 ·
  intro h173
  have h173q : (Pln.Kind p) = 1 := (Go.Am.beq_pos h173)
  have e174 := e0.trans (Go.Am.bif_t h173)
  refine AW.seq ?_
  refine AW.reg hC  false [] [6] []
   ⟨[(6, .bool (List.getD sets (Int.toNat (Pln.Table p)) false))], []⟩
   [(0 ≤ (Pln.Table p) ∧ (Pln.Table p) < ((List.length sets : Nat) : Int))] (by kernel_rfl) ?_ ?_
  ·
   refine ⟨?_, trivial⟩
   ·
    first | omega | (dsimp only; omega) | (simp only [lens] at *; omega)
  refine AW.ret ?_
  exact AW.retE (β := Bool) (fun v => [⟨.bool, v⟩]) (fun v => []) (v := (List.getD sets (Int.toNat (Pln.Table p)) false)) e174 (by kernel_rfl) rfl rfl
 ·
  intro h175
  have h175q : (Pln.Kind p) ≠ 1 := (Go.Am.beq_neg h175)
  have e176 := e0.trans (Go.Am.bif_f h175)
  refine AW.seq ?_
  refine AW.seq ?_
  refine AW.reg hC  false [] [0, 1, 2, 13, 23] []
   ⟨[(0, .dref (.named 2) (p : Pln)), (1, .data (.slice (.int .i64)) (ws : List Int)), (2, .data (.slice .bool) (sets : List Bool)), (13, .int .i64 (Pln.Kind p)), (23, .bool ((Pln.Kind p) == 7))], []⟩
   [] (by kernel_rfl) ?_ ?_
  ·
   exact trivial
  refine AW.cutQ (α := Bool) (fun x => ⟨[(0, .dref (.named 2) (p : Pln)), (1, .data (.slice (.int .i64)) (ws : List Int)), (2, .data (.slice .bool) (sets : List Bool)), (13, .int .i64 (Pln.Kind p)), (23, .bool x)], []⟩) (fun x => (True) ∧ (idupFree_j0 p) = x) ?_ ?_
  ·
   skip
   have e185 : (idupFree_j0 p) = (idupFree_j0 p) := rfl
   refine AW.cond (b := ((Pln.Kind p) == 7)) (by kernel_rfl) ?_ ?_
   ·
    intro h186
    have h186q : (Pln.Kind p) = 7 := (Go.Am.beq_pos h186)
    have e187 := e185.trans (Go.Am.bif_t h186)
    refine AW.skip ?_
    refine AW.meet ((Pln.Kind p) == 7) (by kernel_rfl) ⟨?_, e187⟩
    show True
    first | exact trivial | assumption | omega
   ·
    intro h188
    have h188q : (Pln.Kind p) ≠ 7 := (Go.Am.beq_neg h188)
    have e189 := e185.trans (Go.Am.bif_f h188)
    refine AW.reg hC  false [] [0, 1, 2, 13, 23] []
     ⟨[(0, .dref (.named 2) (p : Pln)), (1, .data (.slice (.int .i64)) (ws : List Int)), (2, .data (.slice .bool) (sets : List Bool)), (13, .int .i64 (Pln.Kind p)), (23, .bool ((Pln.Kind p) == 8))], []⟩
     [] (by kernel_rfl) ?_ ?_
    ·
     exact trivial
    refine AW.meet ((Pln.Kind p) == 8) (by kernel_rfl) ⟨?_, e189⟩
    show True
    first | exact trivial | assumption | omega
  ·
   intro v23 hR
   obtain ⟨hM0, e190⟩ := hR
   replace hM0 : True := hM0
   have e191 := e176.trans (Go.Am.then_eq e190)
   refine AW.cond (b := v23) (by kernel_rfl) ?_ ?_
   ·
    intro h208
    have h208q : v23 = true := h208
    have e209 := e191.trans (Go.Am.bif_t h208)
    refine AW.seq ?_
    refine AW.reg hC  false [] [6] []
     ⟨[(6, .bool true)], []⟩
     [] (by kernel_rfl) ?_ ?_
    ·
     exact trivial
    refine AW.ret ?_
    exact AW.retE (β := Bool) (fun v => [⟨.bool, v⟩]) (fun v => []) (v := true) e209 (by kernel_rfl) rfl rfl
   ·
    intro h210
    have h210q : v23 = false := h210
    have e211 := e191.trans (Go.Am.bif_f h210)
    refine AW.seq ?_
    refine AW.reg hC  false [] [0, 1, 2, 26] []
     ⟨[(0, .dref (.named 2) (p : Pln)), (1, .data (.slice (.int .i64)) (ws : List Int)), (2, .data (.slice .bool) (sets : List Bool)), (26, .bool ((Pln.Kind p) == 6))], []⟩
     [] (by kernel_rfl) ?_ ?_
    ·
     exact trivial
    refine AW.cond (b := ((Pln.Kind p) == 6)) (by kernel_rfl) ?_ ?_
    ·
     intro h217
     have h217q : (Pln.Kind p) = 6 := (Go.Am.beq_pos h217)
     have e218 := e211.trans (Go.Am.bif_t h217)
     refine AW.seq ?_
     refine AW.reg hC  false [] [6] []
      ⟨[(6, .bool false)], []⟩
      [] (by kernel_rfl) ?_ ?_
     ·
      exact trivial
     refine AW.ret ?_
     exact AW.retE (β := Bool) (fun v => [⟨.bool, v⟩]) (fun v => []) (v := false) e218 (by kernel_rfl) rfl rfl
    ·
     intro h219
     have h219q : (Pln.Kind p) ≠ 6 := (Go.Am.beq_neg h219)
     have e220 := e211.trans (Go.Am.bif_f h219)
     refine AW.keep [0, 1, 2] [] ⟨[(0, .dref (.named 2) (p : Pln)), (1, .data (.slice (.int .i64)) (ws : List Int)), (2, .data (.slice .bool) (sets : List Bool))], []⟩ (by kernel_rfl) ?_
     refine AW.skip ?_
     refine AW.seq ?_
     refine AW.seq ?_
     refine AW.reg hC  false [] [0, 1, 2, 32, 33] []
      ⟨[(0, .dref (.named 2) (p : Pln)), (1, .data (.slice (.int .i64)) (ws : List Int)), (2, .data (.slice .bool) (sets : List Bool)), (32, .int .i64 ((List.length (Pln.Kids p) : Nat) : Int)), (33, .int .i64 0)], []⟩
      [] (by kernel_rfl) ?_ ?_
     ·
      exact trivial
     refine AW.cutQ (α := Unit) (fun x => ⟨[(0, .dref (.named 2) (p : Pln)), (1, .data (.slice (.int .i64)) (ws : List Int))], []⟩) (fun x => (True) ∧ (idupFree_l0 (idupFree_r fuel) p ws sets ((List.length (Pln.Kids p)) - 0 + 1) 0) = (.inl ())) ?_ ?_
     ·
      skip
      refine AW.block ?_
      refine AW.loop (α := Nat) (fun x => ⟨[(0, .dref (.named 2) (p : Pln)), (1, .data (.slice (.int .i64)) (ws : List Int)), (2, .data (.slice .bool) (sets : List Bool)), (32, .int .i64 ((List.length (Pln.Kids p) : Nat) : Int)), (33, .int .i64 ((x : Nat) : Int))], []⟩) (fun x => (True) ∧ ∃ k, (List.length (Pln.Kids p)) - x < k ∧ (idupFree_l0 (idupFree_r fuel) p ws sets ((List.length (Pln.Kids p)) - 0 + 1) 0) = idupFree_l0 (idupFree_r fuel) p ws sets k x) (fun x => (List.length (Pln.Kids p)) - x) 0 (by kernel_rfl) ⟨?_, _, Nat.lt_succ_self _, rfl⟩ ?_
      ·
       show True
       first | exact trivial | (refine ⟨?_, ?_⟩ <;> first | omega | simp) | omega | simp
      ·
       intro v33 hR
       obtain ⟨hI0, k319, hk317, e318⟩ := hR
       replace hI0 : True := hI0
       replace hk317 : (List.length (Pln.Kids p)) - v33 < k319 := hk317
       obtain ⟨k319q, rfl⟩ : ∃ k, k319 = k + 1 := ⟨k319 - 1, by omega⟩
       refine AW.seq ?_
       refine AW.reg hC  false [] [0, 1, 2, 32, 33, 34] []
        ⟨[(0, .dref (.named 2) (p : Pln)), (1, .data (.slice (.int .i64)) (ws : List Int)), (2, .data (.slice .bool) (sets : List Bool)), (32, .int .i64 ((List.length (Pln.Kids p) : Nat) : Int)), (33, .int .i64 ((v33 : Nat) : Int)), (34, .bool (decide (((v33 : Nat) : Int) < ((List.length (Pln.Kids p) : Nat) : Int))))], []⟩
        [] (by kernel_rfl) ?_ ?_
       ·
        exact trivial
       refine AW.seq ?_
       refine AW.cond (b := (decide (((v33 : Nat) : Int) < ((List.length (Pln.Kids p) : Nat) : Int)))) (by kernel_rfl) ?_ ?_
       ·
        intro h324
        have h324q : ((v33 : Nat) : Int) < ((List.length (Pln.Kids p) : Nat) : Int) := (of_decide_eq_true h324)
        have e325 := e318.trans (Go.Am.bif_t h324)
        refine AW.keep [0, 1, 2, 32, 33] [] ⟨[(0, .dref (.named 2) (p : Pln)), (1, .data (.slice (.int .i64)) (ws : List Int)), (2, .data (.slice .bool) (sets : List Bool)), (32, .int .i64 ((List.length (Pln.Kids p) : Nat) : Int)), (33, .int .i64 ((v33 : Nat) : Int))], []⟩ (by kernel_rfl) ?_
        refine AW.skip ?_
        refine AW.seq ?_
        refine AW.block ?_
        refine AW.seq ?_
        refine AW.reg hC  false [] [0, 1, 2, 7, 32, 33] []
         ⟨[(0, .dref (.named 2) (p : Pln)), (1, .data (.slice (.int .i64)) (ws : List Int)), (2, .data (.slice .bool) (sets : List Bool)), (7, .int .i64 ((v33 : Nat) : Int)), (32, .int .i64 ((List.length (Pln.Kids p) : Nat) : Int)), (33, .int .i64 ((v33 : Nat) : Int))], []⟩
         [] (by kernel_rfl) ?_ ?_
        ·
         exact trivial
        refine AW.seq ?_
        refine AW.reg hC  false [] [0, 1, 2, 32, 33, 45] []
         ⟨[(0, .dref (.named 2) (p : Pln)), (1, .data (.slice (.int .i64)) (ws : List Int)), (2, .data (.slice .bool) (sets : List Bool)), (32, .int .i64 ((List.length (Pln.Kids p) : Nat) : Int)), (33, .int .i64 ((v33 : Nat) : Int)), (45, .bool (!((idupFree_r fuel) (List.getD (Pln.Kids p) v33 Pln.zero) ws sets)))], []⟩
         [(0 ≤ ((v33 : Nat) : Int) ∧ ((v33 : Nat) : Int) < ((List.length (Pln.Kids p) : Nat) : Int)), ((PS ws sets (List.getD (Pln.Kids p) v33 Pln.zero)) ∧ SizeOf.sizeOf (List.getD (Pln.Kids p) v33 Pln.zero) < fuel)] (by kernel_rfl) ?_ ?_
        ·
         refine ⟨?_, ?_, trivial⟩
         ·
          first | omega | (dsimp only; omega) | (simp only [lens] at *; omega)
         ·
          exact ⟨hpre.1.kid (by omega), Nat.lt_of_lt_of_le (pkid_lt (by omega)) (Nat.le_of_lt_succ hpre.2)⟩
        refine AW.cond (b := (!((idupFree_r fuel) (List.getD (Pln.Kids p) v33 Pln.zero) ws sets))) (by kernel_rfl) ?_ ?_
        ·
         intro h345
         have h345q : ((idupFree_r fuel) (List.getD (Pln.Kids p) v33 Pln.zero) ws sets) = false := (Go.Am.not_pos h345)
         have e346 := e325.trans (Go.Am.bif_t h345)
         refine AW.seq ?_
         refine AW.reg hC  false [] [6] []
          ⟨[(6, .bool false)], []⟩
          [] (by kernel_rfl) ?_ ?_
         ·
          exact trivial
         refine AW.ret ?_
         have e347 := e220.trans (Go.Am.elim_r e346)
         exact AW.retE (β := Bool) (fun v => [⟨.bool, v⟩]) (fun v => []) (v := false) e347 (by kernel_rfl) rfl rfl
        ·
         intro h348
         have h348q : ((idupFree_r fuel) (List.getD (Pln.Kids p) v33 Pln.zero) ws sets) = true := (Go.Am.not_neg h348)
         have e349 := e325.trans (Go.Am.bif_f h348)
         refine AW.keep [0, 1, 2, 32, 33] [] ⟨[(0, .dref (.named 2) (p : Pln)), (1, .data (.slice (.int .i64)) (ws : List Int)), (2, .data (.slice .bool) (sets : List Bool)), (32, .int .i64 ((List.length (Pln.Kids p) : Nat) : Int)), (33, .int .i64 ((v33 : Nat) : Int))], []⟩ (by kernel_rfl) ?_
         refine AW.skip ?_
         refine AW.reg hC  false [] [0, 1, 2, 32, 33] []
          ⟨[(0, .dref (.named 2) (p : Pln)), (1, .data (.slice (.int .i64)) (ws : List Int)), (2, .data (.slice .bool) (sets : List Bool)), (32, .int .i64 ((List.length (Pln.Kids p) : Nat) : Int)), (33, .int .i64 ((v33 + 1 : Nat) : Int))], []⟩
          [(-9223372036854775808 ≤ ((v33 + 1 : Nat) : Int) ∧ ((v33 + 1 : Nat) : Int) ≤ 9223372036854775807)] (by kernel_rfl) ?_ ?_
         ·
          refine ⟨?_, trivial⟩
          ·
           first | omega | (dsimp only; omega) | (simp only [lens] at *; omega)
         refine AW.back (x := v33) (v33 + 1) (by kernel_rfl) ⟨?_, k319q, ?_, e349⟩ ?_
         ·
          show True
          first | assumption | exact trivial | (refine ⟨?_, ?_⟩ <;> first | omega | (simp only [lens] at *; omega)) | omega | (simp only [lens] at *; omega)
         ·
          show (List.length (Pln.Kids p)) - (v33 + 1) < k319q
          first | omega | (simp only [lens]; omega)
         ·
          show (List.length (Pln.Kids p)) - (v33 + 1) < (List.length (Pln.Kids p)) - v33
          first | omega | (simp only [lens]; omega)
       ·
        intro h350
        have h350q : ¬ (((v33 : Nat) : Int) < ((List.length (Pln.Kids p) : Nat) : Int)) := (of_decide_eq_false h350)
        have e351 := e318.trans (Go.Am.bif_f h350)
        refine AW.keep [0, 1] [] ⟨[(0, .dref (.named 2) (p : Pln)), (1, .data (.slice (.int .i64)) (ws : List Int))], []⟩ (by kernel_rfl) ?_
        refine AW.exit ?_
        refine AW.meet () (by kernel_rfl) ⟨?_, e351⟩
        show True
        first | assumption | exact trivial | omega
     ·
      intro x hR
      obtain ⟨hJ0, e352⟩ := hR
      replace hJ0 : True := hJ0
      have e353 := e220.trans (Go.Am.elim_l e352)
      refine AW.seq ?_
      refine AW.seq ?_
      refine AW.reg hC  false [] [0, 1, 51] []
       ⟨[(0, .dref (.named 2) (p : Pln)), (1, .data (.slice (.int .i64)) (ws : List Int)), (51, .bool ((Pln.Kind p) != 3))], []⟩
       [] (by kernel_rfl) ?_ ?_
      ·
       exact trivial
      refine AW.cond (b := ((Pln.Kind p) != 3)) (by kernel_rfl) ?_ ?_
      ·
       intro h359
       have h359q : (Pln.Kind p) ≠ 3 := (Go.Am.bne_pos h359)
       have e360 := e353.trans (Go.Am.bif_t h359)
       refine AW.seq ?_
       refine AW.reg hC  false [] [6] []
        ⟨[(6, .bool true)], []⟩
        [] (by kernel_rfl) ?_ ?_
       ·
        exact trivial
       refine AW.ret ?_
       exact AW.retE (β := Bool) (fun v => [⟨.bool, v⟩]) (fun v => []) (v := true) e360 (by kernel_rfl) rfl rfl
      ·
       intro h361
       have h361q : (Pln.Kind p) = 3 := (Go.Am.bne_neg h361)
       have e362 := e353.trans (Go.Am.bif_f h361)
       refine AW.keep [0, 1] [] ⟨[(0, .dref (.named 2) (p : Pln)), (1, .data (.slice (.int .i64)) (ws : List Int))], []⟩ (by kernel_rfl) ?_
       refine AW.skip ?_
       refine AW.seq ?_
       refine AW.reg hC  false [] [0, 1, 8] []
        ⟨[(0, .dref (.named 2) (p : Pln)), (1, .data (.slice (.int .i64)) (ws : List Int)), (8, .int .i64 0)], []⟩
        [] (by kernel_rfl) ?_ ?_
       ·
        exact trivial
       refine AW.seq ?_
       refine AW.seq ?_
       refine AW.reg hC  false [] [0, 1, 8, 56, 57] []
        ⟨[(0, .dref (.named 2) (p : Pln)), (1, .data (.slice (.int .i64)) (ws : List Int)), (8, .int .i64 0), (56, .int .i64 ((List.length (Pln.Exprs p) : Nat) : Int)), (57, .int .i64 0)], []⟩
        [] (by kernel_rfl) ?_ ?_
       ·
        exact trivial
       refine AW.cutQ (α := Int) (fun x => ⟨[(0, .dref (.named 2) (p : Pln)), (1, .data (.slice (.int .i64)) (ws : List Int)), (8, .int .i64 x)], []⟩) (fun x => (True) ∧ (idupFree_l1 p ((List.length (Pln.Exprs p)) - 0 + 1) 0 0) = x) ?_ ?_
       ·
        skip
        refine AW.block ?_
        refine AW.loop (α := Int × Nat) (fun x => ⟨[(0, .dref (.named 2) (p : Pln)), (1, .data (.slice (.int .i64)) (ws : List Int)), (8, .int .i64 x.1), (56, .int .i64 ((List.length (Pln.Exprs p) : Nat) : Int)), (57, .int .i64 ((x.2 : Nat) : Int))], []⟩) (fun x => (True) ∧ ∃ k, (List.length (Pln.Exprs p)) - x.2 < k ∧ (idupFree_l1 p ((List.length (Pln.Exprs p)) - 0 + 1) 0 0) = idupFree_l1 p k x.1 x.2) (fun x => (List.length (Pln.Exprs p)) - x.2) (0, 0) (by kernel_rfl) ⟨?_, _, Nat.lt_succ_self _, rfl⟩ ?_
        ·
         show True
         first | exact trivial | (refine ⟨?_, ?_⟩ <;> first | omega | simp) | omega | simp
        ·
         intro x hR
         obtain ⟨found1, v57⟩ := x
         obtain ⟨hI1, k517, hk515, e516⟩ := hR
         replace hI1 : True := hI1
         replace hk515 : (List.length (Pln.Exprs p)) - v57 < k517 := hk515
         obtain ⟨k517q, rfl⟩ : ∃ k, k517 = k + 1 := ⟨k517 - 1, by omega⟩
         refine AW.seq ?_
         refine AW.reg hC  false [] [0, 1, 8, 56, 57, 58] []
          ⟨[(0, .dref (.named 2) (p : Pln)), (1, .data (.slice (.int .i64)) (ws : List Int)), (8, .int .i64 found1), (56, .int .i64 ((List.length (Pln.Exprs p) : Nat) : Int)), (57, .int .i64 ((v57 : Nat) : Int)), (58, .bool (decide (((v57 : Nat) : Int) < ((List.length (Pln.Exprs p) : Nat) : Int))))], []⟩
          [] (by kernel_rfl) ?_ ?_
         ·
          exact trivial
         refine AW.seq ?_
         refine AW.cond (b := (decide (((v57 : Nat) : Int) < ((List.length (Pln.Exprs p) : Nat) : Int)))) (by kernel_rfl) ?_ ?_
         ·
          intro h522
          have h522q : ((v57 : Nat) : Int) < ((List.length (Pln.Exprs p) : Nat) : Int) := (of_decide_eq_true h522)
          have e523 := e516.trans (Go.Am.bif_t h522)
          refine AW.keep [0, 1, 8, 56, 57] [] ⟨[(0, .dref (.named 2) (p : Pln)), (1, .data (.slice (.int .i64)) (ws : List Int)), (8, .int .i64 found1), (56, .int .i64 ((List.length (Pln.Exprs p) : Nat) : Int)), (57, .int .i64 ((v57 : Nat) : Int))], []⟩ (by kernel_rfl) ?_
          refine AW.skip ?_
          refine AW.seq ?_
          refine AW.block ?_
          refine AW.seq ?_
          refine AW.reg hC  false [] [0, 1, 8, 9, 56, 57] []
           ⟨[(0, .dref (.named 2) (p : Pln)), (1, .data (.slice (.int .i64)) (ws : List Int)), (8, .int .i64 found1), (9, .int .i64 ((v57 : Nat) : Int)), (56, .int .i64 ((List.length (Pln.Exprs p) : Nat) : Int)), (57, .int .i64 ((v57 : Nat) : Int))], []⟩
           [] (by kernel_rfl) ?_ ?_
          ·
           exact trivial
          refine AW.seq ?_
          refine AW.reg hC  false [] [0, 1, 8, 9, 56, 57, 68] []
           ⟨[(0, .dref (.named 2) (p : Pln)), (1, .data (.slice (.int .i64)) (ws : List Int)), (8, .int .i64 found1), (9, .int .i64 ((v57 : Nat) : Int)), (56, .int .i64 ((List.length (Pln.Exprs p) : Nat) : Int)), (57, .int .i64 ((v57 : Nat) : Int)), (68, .bool ((Xpr.Kind (List.getD (Pln.Exprs p) v57 Xpr.zero)) == 1))], []⟩
           [(0 ≤ ((v57 : Nat) : Int) ∧ ((v57 : Nat) : Int) < ((List.length (Pln.Exprs p) : Nat) : Int))] (by kernel_rfl) ?_ ?_
          ·
           refine ⟨?_, trivial⟩
           ·
            first | omega | (dsimp only; omega) | (simp only [lens] at *; omega)
          refine AW.cutQ (α := Int) (fun x => ⟨[(0, .dref (.named 2) (p : Pln)), (1, .data (.slice (.int .i64)) (ws : List Int)), (8, .int .i64 x), (56, .int .i64 ((List.length (Pln.Exprs p) : Nat) : Int)), (57, .int .i64 ((v57 : Nat) : Int))], []⟩) (fun x => (True) ∧ (idupFree_j1 p found1 v57) = x) ?_ ?_
          ·
           skip
           have e547 : (idupFree_j1 p found1 v57) = (idupFree_j1 p found1 v57) := rfl
           refine AW.cond (b := ((Xpr.Kind (List.getD (Pln.Exprs p) v57 Xpr.zero)) == 1)) (by kernel_rfl) ?_ ?_
           ·
            intro h548
            have h548q : (Xpr.Kind (List.getD (Pln.Exprs p) v57 Xpr.zero)) = 1 := (Go.Am.beq_pos h548)
            have e549 := e547.trans (Go.Am.bif_t h548)
            refine AW.reg hC  false [] [0, 1, 8, 56, 57] []
             ⟨[(0, .dref (.named 2) (p : Pln)), (1, .data (.slice (.int .i64)) (ws : List Int)), (8, .int .i64 (bits .or .i64 found1 (columns (List.getD (Pln.Exprs p) v57 Xpr.zero)))), (56, .int .i64 ((List.length (Pln.Exprs p) : Nat) : Int)), (57, .int .i64 ((v57 : Nat) : Int))], []⟩
             [(0 ≤ ((v57 : Nat) : Int) ∧ ((v57 : Nat) : Int) < ((List.length (Pln.Exprs p) : Nat) : Int)), (VC (List.getD (Pln.Exprs p) v57 Xpr.zero))] (by kernel_rfl) ?_ ?_
            ·
             refine ⟨?_, ?_, trivial⟩
             ·
              first | omega | (dsimp only; omega) | (simp only [lens] at *; omega)
             ·
              exact hpre.1.1.vc (by omega) (by omega)
            refine AW.meet (bits .or .i64 found1 (columns (List.getD (Pln.Exprs p) v57 Xpr.zero))) (by kernel_rfl) ⟨?_, e549⟩
            show True
            first | exact trivial | assumption | omega
           ·
            intro h550
            have h550q : (Xpr.Kind (List.getD (Pln.Exprs p) v57 Xpr.zero)) ≠ 1 := (Go.Am.beq_neg h550)
            have e551 := e547.trans (Go.Am.bif_f h550)
            refine AW.keep [0, 1, 8, 56, 57] [] ⟨[(0, .dref (.named 2) (p : Pln)), (1, .data (.slice (.int .i64)) (ws : List Int)), (8, .int .i64 found1), (56, .int .i64 ((List.length (Pln.Exprs p) : Nat) : Int)), (57, .int .i64 ((v57 : Nat) : Int))], []⟩ (by kernel_rfl) ?_
            refine AW.skip ?_
            refine AW.meet found1 (by kernel_rfl) ⟨?_, e551⟩
            show True
            first | exact trivial | assumption | omega
          ·
           intro found hR
           obtain ⟨hM1, e552⟩ := hR
           replace hM1 : True := hM1
           have e553 := e523.trans (Go.Am.then_eq e552)
           refine AW.reg hC  false [] [0, 1, 8, 56, 57] []
            ⟨[(0, .dref (.named 2) (p : Pln)), (1, .data (.slice (.int .i64)) (ws : List Int)), (8, .int .i64 found), (56, .int .i64 ((List.length (Pln.Exprs p) : Nat) : Int)), (57, .int .i64 ((v57 + 1 : Nat) : Int))], []⟩
            [(-9223372036854775808 ≤ ((v57 + 1 : Nat) : Int) ∧ ((v57 + 1 : Nat) : Int) ≤ 9223372036854775807)] (by kernel_rfl) ?_ ?_
           ·
            refine ⟨?_, trivial⟩
            ·
             first | omega | (dsimp only; omega) | (simp only [lens] at *; omega)
           refine AW.back (x := (found1, v57)) (found, v57 + 1) (by kernel_rfl) ⟨?_, k517q, ?_, e553⟩ ?_
           ·
            show True
            first | assumption | exact trivial | (refine ⟨?_, ?_⟩ <;> first | omega | (simp only [lens] at *; omega)) | omega | (simp only [lens] at *; omega)
           ·
            show (List.length (Pln.Exprs p)) - (v57 + 1) < k517q
            first | omega | (simp only [lens]; omega)
           ·
            show (List.length (Pln.Exprs p)) - (v57 + 1) < (List.length (Pln.Exprs p)) - v57
            first | omega | (simp only [lens]; omega)
         ·
          intro h554
          have h554q : ¬ (((v57 : Nat) : Int) < ((List.length (Pln.Exprs p) : Nat) : Int)) := (of_decide_eq_false h554)
          have e555 := e516.trans (Go.Am.bif_f h554)
          refine AW.keep [0, 1, 8] [] ⟨[(0, .dref (.named 2) (p : Pln)), (1, .data (.slice (.int .i64)) (ws : List Int)), (8, .int .i64 found1)], []⟩ (by kernel_rfl) ?_
          refine AW.exit ?_
          refine AW.meet found1 (by kernel_rfl) ⟨?_, e555⟩
          show True
          first | assumption | exact trivial | omega
       ·
        intro found1 hR
        obtain ⟨hJ1, e556⟩ := hR
        replace hJ1 : True := hJ1
        have e557 := e362.trans (Go.Am.then_eq e556)
        refine AW.seq ?_
        refine AW.reg hC  false [] [6] []
         ⟨[(6, .bool (found1 == (((1 : Int) * 2 ^ (Int.toNat (iPlanWidth (List.getD (Pln.Kids p) 0 Pln.zero) ws))) - 1)))], []⟩
         [(0 ≤ (0 : Int) ∧ (0 : Int) < ((List.length (Pln.Kids p) : Nat) : Int)), (True), (0 ≤ (iPlanWidth (List.getD (Pln.Kids p) 0 Pln.zero) ws) ∧ (iPlanWidth (List.getD (Pln.Kids p) 0 Pln.zero) ws) ≤ 64), (-9223372036854775808 ≤ ((1 : Int) * 2 ^ (Int.toNat (iPlanWidth (List.getD (Pln.Kids p) 0 Pln.zero) ws))) ∧ ((1 : Int) * 2 ^ (Int.toNat (iPlanWidth (List.getD (Pln.Kids p) 0 Pln.zero) ws))) ≤ 9223372036854775807), (-9223372036854775808 ≤ (((1 : Int) * 2 ^ (Int.toNat (iPlanWidth (List.getD (Pln.Kids p) 0 Pln.zero) ws))) - 1) ∧ (((1 : Int) * 2 ^ (Int.toNat (iPlanWidth (List.getD (Pln.Kids p) 0 Pln.zero) ws))) - 1) ≤ 9223372036854775807)] (by kernel_rfl) ?_ ?_
        ·
         refine ⟨?_, ?_, ?_, ?_, ?_, trivial⟩
         ·
          first | omega | (dsimp only; omega) | (simp only [lens] at *; omega)
         ·
          trivial
         ·
          have hw := widthOf_b (List.getD (Pln.Kids p) 0 Pln.zero) ws
          rw [← iPlanWidth_eq] at hw
          have := pow_le6 hw
          omega
         ·
          have hw := widthOf_b (List.getD (Pln.Kids p) 0 Pln.zero) ws
          rw [← iPlanWidth_eq] at hw
          have := pow_le6 hw
          omega
         ·
          have hw := widthOf_b (List.getD (Pln.Kids p) 0 Pln.zero) ws
          rw [← iPlanWidth_eq] at hw
          have := pow_le6 hw
          omega
        refine AW.ret ?_
        exact AW.retE (β := Bool) (fun v => [⟨.bool, v⟩]) (fun v => []) (v := (found1 == (((1 : Int) * 2 ^ (Int.toNat (iPlanWidth (List.getD (Pln.Kids p) 0 Pln.zero) ws))) - 1))) e557 (by kernel_rfl) rfl rfl

theorem idupFree_fu : AllTV (idupFree_sp.ps.map PK.ty) (fun tvs => idupFree_sp.pre tvs → ∃ k, (idupFree_spn k).pre tvs ∧ (idupFree_spn k).fn tvs = idupFree_sp.fn tvs ∧ (idupFree_spn k).bx tvs = idupFree_sp.bx tvs) :=
 (fun (p : Pln) (ws : List Int) (sets : List Bool) h => ⟨SizeOf.sizeOf p + 1, (show (PS ws sets p) ∧ SizeOf.sizeOf p < SizeOf.sizeOf p + 1 from ⟨h, Nat.lt_succ_self _⟩), (show (idupFree_spn (SizeOf.sizeOf p + 1)).fn [⟨(.named 2), (p : Pln)⟩, ⟨(.slice (.int .i64)), (ws : List Int)⟩, ⟨(.slice .bool), (sets : List Bool)⟩] = ([⟨.bool, (idupFree_r (SizeOf.sizeOf p + 1) p ws sets)⟩] : List TV) from by kernel_rfl).trans (show ([⟨.bool, (idupFree_r (SizeOf.sizeOf p + 1) p ws sets)⟩] : List TV) = idupFree_sp.fn [⟨(.named 2), (p : Pln)⟩, ⟨(.slice (.int .i64)), (ws : List Int)⟩, ⟨(.slice .bool), (sets : List Bool)⟩] from by kernel_rfl), by kernel_rfl⟩)

theorem idupFree_ok : FnOK Try.prog 87 idupFree_sp := FnOK.of_fuel idupFree_okn (fun _ => rfl) (fun _ => rfl) (AllTV.get idupFree_fu)

def keepsAll_l1 (list : List Xpr) (c : Nat) : Nat → Bool → Nat → Bool
 | 0, is, i => is
 | k + 1, is, i => (bif (decide (((i : Nat) : Int) < ((List.length list : Nat) : Int))) then (keepsAll_l1 list c k (bif is then true else (bif ((Xpr.Kind (List.getD list i Xpr.zero)) == 1) then ((Xpr.Col (List.getD list i Xpr.zero)) == ((c : Nat) : Int)) else false)) (i + 1)) else is)

def keepsAll_l0 (list : List Xpr) (width : Int) : Nat → Nat → Unit ⊕ Bool
 | 0, c => .inl ()
 | k + 1, c => (bif (decide (((c : Nat) : Int) < width)) then (Go.Am.andThen (keepsAll_l1 list c ((List.length list) - 0 + 1) false 0) (fun z => (fun (is : Bool) => (bif (!is) then (.inr false) else (keepsAll_l0 list width k (c + 1)))) z)) else (.inl ()))

def keepsAll (list : List Xpr) (width : Int) : Bool := (Sum.elim (fun _ => true) (fun r => r) (keepsAll_l0 list width (Int.toNat (width - ((0 : Nat) : Int)) + 1) 0))

def keepsAll_sp : FnSpec := mkSpec [.val (.slice (.named 1)), .val (.int .i64)] [.val .bool] (fun (list : List Xpr) (width : Int) => True) (fun (list : List Xpr) (width : Int) => [⟨.bool, (keepsAll list width)⟩])

theorem keepsAll_ok : FnOK Try.prog 121 keepsAll_sp := by
 have hC : CtxOK Try.prog (mkCtx tyL []) := CtxOK.nil tyOK
 refine FnOK.of_body Try.func121 (by kernel_rfl) rfl (C := (mkCtx tyL [])) hC.ty (by kernel_rfl) ?_
 intro (list : List Xpr) (width : Int) hwf hpre E
 have hpre : True := hpre
 have hw_list : Wf ⟨(.slice (.named 1)), (list : List Xpr)⟩ := hwf _ (List.Mem.head _)
 have hl_list : ((List.length list : Nat) : Int) ≤ 9223372036854775807 := hw_list.len
 have hw_width : Wf ⟨(.int .i64), (width : Int)⟩ := hwf _ (List.Mem.tail _ (List.Mem.head _))
 have hr_width : -9223372036854775808 ≤ width ∧ width ≤ 9223372036854775807 := hw_width.int_inv
 have e0 : keepsAll list width = keepsAll list width := rfl
 refine AW.seq ?_
 refine AW.reg hC  false [] [0, 1] []
  ⟨[(0, .data (.slice (.named 1)) (list : List Xpr)), (1, .int .i64 width)], []⟩
  [] (by kernel_rfl) ?_ ?_
 ·
  exact trivial
 refine AW.seq ?_
 refine AW.seq ?_
 refine AW.reg hC  false [] [0, 1, 5] []
  ⟨[(0, .data (.slice (.named 1)) (list : List Xpr)), (1, .int .i64 width), (5, .int .i64 0)], []⟩
  [] (by kernel_rfl) ?_ ?_
 ·
  exact trivial
 refine AW.cutQ (α := Unit) (fun x => ⟨[], []⟩) (fun x => (True) ∧ (keepsAll_l0 list width (Int.toNat (width - ((0 : Nat) : Int)) + 1) 0) = (.inl ())) ?_ ?_
 ·
  skip
  refine AW.block ?_
  refine AW.loop (α := Nat) (fun x => ⟨[(0, .data (.slice (.named 1)) (list : List Xpr)), (1, .int .i64 width), (5, .int .i64 ((x : Nat) : Int))], []⟩) (fun x => (True) ∧ ∃ k, Int.toNat (width - ((x : Nat) : Int)) < k ∧ (keepsAll_l0 list width (Int.toNat (width - ((0 : Nat) : Int)) + 1) 0) = keepsAll_l0 list width k x) (fun x => Int.toNat (width - ((x : Nat) : Int))) 0 (by kernel_rfl) ⟨?_, _, Nat.lt_succ_self _, rfl⟩ ?_
  ·
   show True
   first | exact trivial | (refine ⟨?_, ?_⟩ <;> first | omega | simp) | omega | simp
  ·
   intro c hR
   obtain ⟨hI0, k93, hk91, e92⟩ := hR
   replace hI0 : True := hI0
   replace hk91 : Int.toNat (width - ((c : Nat) : Int)) < k93 := hk91
   obtain ⟨k93q, rfl⟩ : ∃ k, k93 = k + 1 := ⟨k93 - 1, by omega⟩
   refine AW.seq ?_
   refine AW.seq ?_
   refine AW.reg hC  false [] [0, 1, 5, 10] []
    ⟨[(0, .data (.slice (.named 1)) (list : List Xpr)), (1, .int .i64 width), (5, .int .i64 ((c : Nat) : Int)), (10, .bool (decide (((c : Nat) : Int) < width)))], []⟩
    [] (by kernel_rfl) ?_ ?_
   ·
    exact trivial
   refine AW.cond (b := (decide (((c : Nat) : Int) < width))) (by kernel_rfl) ?_ ?_
   ·
    intro h94
    have h94q : ((c : Nat) : Int) < width := (of_decide_eq_true h94)
    have e95 := e92.trans (Go.Am.bif_t h94)
    refine AW.keep [0, 1, 5] [] ⟨[(0, .data (.slice (.named 1)) (list : List Xpr)), (1, .int .i64 width), (5, .int .i64 ((c : Nat) : Int))], []⟩ (by kernel_rfl) ?_
    refine AW.skip ?_
    refine AW.seq ?_
    refine AW.block ?_
    refine AW.seq ?_
    refine AW.reg hC  false [] [0, 1, 5, 6] []
     ⟨[(0, .data (.slice (.named 1)) (list : List Xpr)), (1, .int .i64 width), (5, .int .i64 ((c : Nat) : Int)), (6, .bool false)], []⟩
     [] (by kernel_rfl) ?_ ?_
    ·
     exact trivial
    refine AW.seq ?_
    refine AW.seq ?_
    refine AW.reg hC  false [] [0, 1, 5, 6, 7] []
     ⟨[(0, .data (.slice (.named 1)) (list : List Xpr)), (1, .int .i64 width), (5, .int .i64 ((c : Nat) : Int)), (6, .bool false), (7, .int .i64 0)], []⟩
     [] (by kernel_rfl) ?_ ?_
    ·
     exact trivial
    refine AW.cutQ (α := Bool) (fun x => ⟨[(0, .data (.slice (.named 1)) (list : List Xpr)), (1, .int .i64 width), (5, .int .i64 ((c : Nat) : Int)), (6, .bool x)], []⟩) (fun x => (True) ∧ (keepsAll_l1 list c ((List.length list) - 0 + 1) false 0) = x) ?_ ?_
    ·
     skip
     refine AW.block ?_
     refine AW.loop (α := Bool × Nat) (fun x => ⟨[(0, .data (.slice (.named 1)) (list : List Xpr)), (1, .int .i64 width), (5, .int .i64 ((c : Nat) : Int)), (6, .bool x.1), (7, .int .i64 ((x.2 : Nat) : Int))], []⟩) (fun x => (True) ∧ ∃ k, (List.length list) - x.2 < k ∧ (keepsAll_l1 list c ((List.length list) - 0 + 1) false 0) = keepsAll_l1 list c k x.1 x.2) (fun x => (List.length list) - x.2) (false, 0) (by kernel_rfl) ⟨?_, _, Nat.lt_succ_self _, rfl⟩ ?_
     ·
      show True
      first | exact trivial | (refine ⟨?_, ?_⟩ <;> first | omega | simp) | omega | simp
     ·
      intro x hR
      obtain ⟨is, i⟩ := x
      obtain ⟨hI1, k110, hk108, e109⟩ := hR
      replace hI1 : True := hI1
      replace hk108 : (List.length list) - i < k110 := hk108
      obtain ⟨k110q, rfl⟩ : ∃ k, k110 = k + 1 := ⟨k110 - 1, by omega⟩
      refine AW.seq ?_
      refine AW.seq ?_
      refine AW.reg hC  false [] [0, 1, 5, 6, 7, 16] []
       ⟨[(0, .data (.slice (.named 1)) (list : List Xpr)), (1, .int .i64 width), (5, .int .i64 ((c : Nat) : Int)), (6, .bool is), (7, .int .i64 ((i : Nat) : Int)), (16, .bool (decide (((i : Nat) : Int) < ((List.length list : Nat) : Int))))], []⟩
       [] (by kernel_rfl) ?_ ?_
      ·
       exact trivial
      refine AW.cond (b := (decide (((i : Nat) : Int) < ((List.length list : Nat) : Int)))) (by kernel_rfl) ?_ ?_
      ·
       intro h111
       have h111q : ((i : Nat) : Int) < ((List.length list : Nat) : Int) := (of_decide_eq_true h111)
       have e112 := e109.trans (Go.Am.bif_t h111)
       refine AW.keep [0, 1, 5, 6, 7] [] ⟨[(0, .data (.slice (.named 1)) (list : List Xpr)), (1, .int .i64 width), (5, .int .i64 ((c : Nat) : Int)), (6, .bool is), (7, .int .i64 ((i : Nat) : Int))], []⟩ (by kernel_rfl) ?_
       refine AW.skip ?_
       refine AW.seq ?_
       refine AW.block ?_
       refine AW.reg hC  false [] [0, 1, 5, 6, 7] []
        ⟨[(0, .data (.slice (.named 1)) (list : List Xpr)), (1, .int .i64 width), (5, .int .i64 ((c : Nat) : Int)), (6, .bool (bif is then true else (bif ((Xpr.Kind (List.getD list i Xpr.zero)) == 1) then ((Xpr.Col (List.getD list i Xpr.zero)) == ((c : Nat) : Int)) else false))), (7, .int .i64 ((i : Nat) : Int))], []⟩
        [((is = false) → ((is = false))), ((is = false) → ((is = false))), ((is = false) → (0 ≤ ((i : Nat) : Int) ∧ ((i : Nat) : Int) < ((List.length list : Nat) : Int))), ((is = false) → ((is = false))), ((is = false) → ((is = false))), ((is = false) → ((is = false))), ((is = false) → ((is = false))), (((is = false) ∧ (((Xpr.Kind (List.getD list i Xpr.zero)) == 1) = true)) → (((is = false) ∧ (((Xpr.Kind (List.getD list i Xpr.zero)) == 1) = true)))), (((is = false) ∧ (((Xpr.Kind (List.getD list i Xpr.zero)) == 1) = true)) → (((is = false) ∧ (((Xpr.Kind (List.getD list i Xpr.zero)) == 1) = true)))), (((is = false) ∧ (((Xpr.Kind (List.getD list i Xpr.zero)) == 1) = true)) → (0 ≤ ((i : Nat) : Int) ∧ ((i : Nat) : Int) < ((List.length list : Nat) : Int))), (((is = false) ∧ (((Xpr.Kind (List.getD list i Xpr.zero)) == 1) = true)) → (((is = false) ∧ (((Xpr.Kind (List.getD list i Xpr.zero)) == 1) = true)))), (((is = false) ∧ (((Xpr.Kind (List.getD list i Xpr.zero)) == 1) = true)) → (((is = false) ∧ (((Xpr.Kind (List.getD list i Xpr.zero)) == 1) = true)))), (((is = false) ∧ (((Xpr.Kind (List.getD list i Xpr.zero)) == 1) = true)) → (((is = false) ∧ (((Xpr.Kind (List.getD list i Xpr.zero)) == 1) = true)))), (((is = false) ∧ (((Xpr.Kind (List.getD list i Xpr.zero)) == 1) = true)) → (((is = false) ∧ (((Xpr.Kind (List.getD list i Xpr.zero)) == 1) = true)))), ((is = false) → ((is = false))), ((is = false) → ((((Xpr.Kind (List.getD list i Xpr.zero)) == 1) = true) → (((is = false) ∧ (((Xpr.Kind (List.getD list i Xpr.zero)) == 1) = true))))), ((is = false) → ((is = false)))] (by kernel_rfl) ?_ ?_
       ·
        refine ⟨?_, ?_, ?_, ?_, ?_, ?_, ?_, ?_, ?_, ?_, ?_, ?_, ?_, ?_, ?_, ?_, ?_, trivial⟩
        ·
         intro g113
         have g113p0 : is = false := g113
         first | assumption | exact ⟨by assumption, by assumption⟩
        ·
         intro g114
         have g114p0 : is = false := g114
         first | assumption | exact ⟨by assumption, by assumption⟩
        ·
         intro g115
         have g115p0 : is = false := g115
         first | omega | (dsimp only; omega) | (simp only [lens] at *; omega)
        ·
         intro g116
         have g116p0 : is = false := g116
         first | assumption | exact ⟨by assumption, by assumption⟩
        ·
         intro g117
         have g117p0 : is = false := g117
         first | assumption | exact ⟨by assumption, by assumption⟩
        ·
         intro g118
         have g118p0 : is = false := g118
         first | assumption | exact ⟨by assumption, by assumption⟩
        ·
         intro g119
         have g119p0 : is = false := g119
         first | assumption | exact ⟨by assumption, by assumption⟩
        ·
         intro g120
         have g120p0 : is = false := (g120).1
         have g120p1 : (Xpr.Kind (List.getD list i Xpr.zero)) = 1 := (Go.Am.beq_pos (g120).2)
         first | assumption | exact ⟨by assumption, by assumption⟩
        ·
         intro g121
         have g121p0 : is = false := (g121).1
         have g121p1 : (Xpr.Kind (List.getD list i Xpr.zero)) = 1 := (Go.Am.beq_pos (g121).2)
         first | assumption | exact ⟨by assumption, by assumption⟩
        ·
         intro g122
         have g122p0 : is = false := (g122).1
         have g122p1 : (Xpr.Kind (List.getD list i Xpr.zero)) = 1 := (Go.Am.beq_pos (g122).2)
         first | omega | (dsimp only; omega) | (simp only [lens] at *; omega)
        ·
         intro g123
         have g123p0 : is = false := (g123).1
         have g123p1 : (Xpr.Kind (List.getD list i Xpr.zero)) = 1 := (Go.Am.beq_pos (g123).2)
         first | assumption | exact ⟨by assumption, by assumption⟩
        ·
         intro g124
         have g124p0 : is = false := (g124).1
         have g124p1 : (Xpr.Kind (List.getD list i Xpr.zero)) = 1 := (Go.Am.beq_pos (g124).2)
         first | assumption | exact ⟨by assumption, by assumption⟩
        ·
         intro g125
         have g125p0 : is = false := (g125).1
         have g125p1 : (Xpr.Kind (List.getD list i Xpr.zero)) = 1 := (Go.Am.beq_pos (g125).2)
         first | assumption | exact ⟨by assumption, by assumption⟩
        ·
         intro g126
         have g126p0 : is = false := (g126).1
         have g126p1 : (Xpr.Kind (List.getD list i Xpr.zero)) = 1 := (Go.Am.beq_pos (g126).2)
         first | assumption | exact ⟨by assumption, by assumption⟩
        ·
         intro g127
         have g127p0 : is = false := g127
         first | assumption | exact ⟨by assumption, by assumption⟩
        ·
         intro g128
         have g128p0 : is = false := g128
         intro g129
         have g129p0 : (Xpr.Kind (List.getD list i Xpr.zero)) = 1 := (Go.Am.beq_pos g129)
         first | assumption | exact ⟨by assumption, by assumption⟩
        ·
         intro g130
         have g130p0 : is = false := g130
         first | assumption | exact ⟨by assumption, by assumption⟩
       refine AW.reg hC  false [] [0, 1, 5, 6, 7] []
        ⟨[(0, .data (.slice (.named 1)) (list : List Xpr)), (1, .int .i64 width), (5, .int .i64 ((c : Nat) : Int)), (6, .bool (bif is then true else (bif ((Xpr.Kind (List.getD list i Xpr.zero)) == 1) then ((Xpr.Col (List.getD list i Xpr.zero)) == ((c : Nat) : Int)) else false))), (7, .int .i64 ((i + 1 : Nat) : Int))], []⟩
        [(-9223372036854775808 ≤ ((i + 1 : Nat) : Int) ∧ ((i + 1 : Nat) : Int) ≤ 9223372036854775807)] (by kernel_rfl) ?_ ?_
       ·
        refine ⟨?_, trivial⟩
        ·
         first | omega | (dsimp only; omega) | (simp only [lens] at *; omega)
       refine AW.back (x := (is, i)) ((bif is then true else (bif ((Xpr.Kind (List.getD list i Xpr.zero)) == 1) then ((Xpr.Col (List.getD list i Xpr.zero)) == ((c : Nat) : Int)) else false)), i + 1) (by kernel_rfl) ⟨?_, k110q, ?_, e112⟩ ?_
       ·
        show True
        first | assumption | exact trivial | (refine ⟨?_, ?_⟩ <;> first | omega | (simp only [lens] at *; omega)) | omega | (simp only [lens] at *; omega)
       ·
        show (List.length list) - (i + 1) < k110q
        first | omega | (simp only [lens]; omega)
       ·
        show (List.length list) - (i + 1) < (List.length list) - i
        first | omega | (simp only [lens]; omega)
      ·
       intro h131
       have h131q : ¬ (((i : Nat) : Int) < ((List.length list : Nat) : Int)) := (of_decide_eq_false h131)
       have e132 := e109.trans (Go.Am.bif_f h131)
       refine AW.keep [0, 1, 5, 6] [] ⟨[(0, .data (.slice (.named 1)) (list : List Xpr)), (1, .int .i64 width), (5, .int .i64 ((c : Nat) : Int)), (6, .bool is)], []⟩ (by kernel_rfl) ?_
       refine AW.exit ?_
       refine AW.meet is (by kernel_rfl) ⟨?_, e132⟩
       show True
       first | assumption | exact trivial | omega
    ·
     intro is hR
     obtain ⟨hJ1, e133⟩ := hR
     replace hJ1 : True := hJ1
     have e134 := e95.trans (Go.Am.then_eq e133)
     refine AW.seq ?_
     refine AW.reg hC  false [] [0, 1, 5, 38] []
      ⟨[(0, .data (.slice (.named 1)) (list : List Xpr)), (1, .int .i64 width), (5, .int .i64 ((c : Nat) : Int)), (38, .bool (!is))], []⟩
      [] (by kernel_rfl) ?_ ?_
     ·
      exact trivial
     refine AW.cond (b := (!is)) (by kernel_rfl) ?_ ?_
     ·
      intro h135
      have h135q : is = false := (Go.Am.not_pos h135)
      have e136 := e134.trans (Go.Am.bif_t h135)
      refine AW.seq ?_
      refine AW.reg hC  false [] [4] []
       ⟨[(4, .bool false)], []⟩
       [] (by kernel_rfl) ?_ ?_
      ·
       exact trivial
      refine AW.ret ?_
      have e137 := e0.trans (Go.Am.elim_r e136)
      exact AW.retE (β := Bool) (fun v => [⟨.bool, v⟩]) (fun v => []) (v := false) e137 (by kernel_rfl) rfl rfl
     ·
      intro h138
      have h138q : is = true := (Go.Am.not_neg h138)
      have e139 := e134.trans (Go.Am.bif_f h138)
      refine AW.keep [0, 1, 5] [] ⟨[(0, .data (.slice (.named 1)) (list : List Xpr)), (1, .int .i64 width), (5, .int .i64 ((c : Nat) : Int))], []⟩ (by kernel_rfl) ?_
      refine AW.skip ?_
      refine AW.reg hC  false [] [0, 1, 5] []
       ⟨[(0, .data (.slice (.named 1)) (list : List Xpr)), (1, .int .i64 width), (5, .int .i64 ((c + 1 : Nat) : Int))], []⟩
       [(-9223372036854775808 ≤ ((c + 1 : Nat) : Int) ∧ ((c + 1 : Nat) : Int) ≤ 9223372036854775807)] (by kernel_rfl) ?_ ?_
      ·
       refine ⟨?_, trivial⟩
       ·
        first | omega | (dsimp only; omega) | (simp only [lens] at *; omega)
      refine AW.back (x := c) (c + 1) (by kernel_rfl) ⟨?_, k93q, ?_, e139⟩ ?_
      ·
       show True
       first | assumption | exact trivial | (refine ⟨?_, ?_⟩ <;> first | omega | (simp only [lens] at *; omega)) | omega | (simp only [lens] at *; omega)
      ·
       show Int.toNat (width - (((c + 1) : Nat) : Int)) < k93q
       first | omega | (simp only [lens]; omega)
      ·
       show Int.toNat (width - (((c + 1) : Nat) : Int)) < Int.toNat (width - ((c : Nat) : Int))
       first | omega | (simp only [lens]; omega)
   ·
    intro h140
    have h140q : ¬ (((c : Nat) : Int) < width) := (of_decide_eq_false h140)
    have e141 := e92.trans (Go.Am.bif_f h140)
    refine AW.keep [] [] ⟨[], []⟩ (by kernel_rfl) ?_
    refine AW.exit ?_
    refine AW.meet () (by kernel_rfl) ⟨?_, e141⟩
    show True
    first | assumption | exact trivial | omega
 ·
  intro x hR
  obtain ⟨hJ0, e142⟩ := hR
  replace hJ0 : True := hJ0
  have e143 := e0.trans (Go.Am.elim_l e142)
  refine AW.seq ?_
  refine AW.reg hC  false [] [4] []
   ⟨[(4, .bool true)], []⟩
   [] (by kernel_rfl) ?_ ?_
  ·
   exact trivial
  refine AW.ret ?_
  exact AW.retE (β := Bool) (fun v => [⟨.bool, v⟩]) (fun v => []) (v := true) e143 (by kernel_rfl) rfl rfl

def dupFree_j0 (p : Pln) : Bool :=
 (bif ((Pln.Kind p) == 7) then ((Pln.Kind p) == 7) else ((Pln.Kind p) == 8))

def dupFree_l0 (self : Pln → (List Int) → (List Bool) → Bool) (p : Pln) (ws : List Int) (sets : List Bool) : Nat → Nat → Unit ⊕ Bool
 | 0, i => .inl ()
 | k + 1, i => (bif (decide (((i : Nat) : Int) < ((List.length (Pln.Kids p) : Nat) : Int))) then (bif (!(self (List.getD (Pln.Kids p) i Pln.zero) ws sets)) then (.inr false) else (dupFree_l0 self p ws sets k (i + 1))) else (.inl ()))

def dupFree_r : Nat → Pln → (List Int) → (List Bool) → Bool
 | 0, p, ws, sets => false
 | fuel + 1, p, ws, sets => (bif ((Pln.Kind p) == 1) then (List.getD sets (Int.toNat (Pln.Table p)) false) else (bif ((Pln.Kind p) == 6) then false else (Go.Am.andThen (dupFree_j0 p) (fun z => (fun (v19 : Bool) => (bif v19 then true else (bif ((Pln.Kind p) == 3) then (bif (keepsAll (Pln.Exprs p) (planWidth (List.getD (Pln.Kids p) 0 Pln.zero) ws 8)) then ((dupFree_r fuel) (List.getD (Pln.Kids p) 0 Pln.zero) ws sets) else false) else (Sum.elim (fun _ => true) (fun r => r) (dupFree_l0 (dupFree_r fuel) p ws sets ((List.length (Pln.Kids p)) - 0 + 1) 0))))) z))))

def dupFree (p : Pln) (ws : List Int) (sets : List Bool) : Bool := dupFree_r (SizeOf.sizeOf p + 1) p ws sets

def dupFree_spn (fuel : Nat) : FnSpec := mkSpec [.val (.named 2), .val (.slice (.int .i64)), .val (.slice .bool)] [.val .bool] (fun (p : Pln) (ws : List Int) (sets : List Bool) => (PS ws sets p) ∧ SizeOf.sizeOf p < fuel) (fun (p : Pln) (ws : List Int) (sets : List Bool) => [⟨.bool, (dupFree_r fuel p ws sets)⟩])

def dupFree_sp : FnSpec := mkSpec [.val (.named 2), .val (.slice (.int .i64)), .val (.slice .bool)] [.val .bool] (fun (p : Pln) (ws : List Int) (sets : List Bool) => PS ws sets p) (fun (p : Pln) (ws : List Int) (sets : List Bool) => [⟨.bool, (dupFree p ws sets)⟩])

theorem dupFree_okn (fuel : Nat) : FnOK Try.prog 86 (dupFree_spn fuel) := by
 induction fuel with
 | zero => exact FnOK.never Try.func86 (by kernel_rfl) rfl (fun _ _ _ h => absurd h.2 (Nat.not_lt_zero _))
 | succ fuel ih => ?_
 have hC : CtxOK Try.prog (mkCtx tyL [(86, (dupFree_spn fuel)), (112, planWidth_sp), (121, keepsAll_sp)]) := CtxOK.cons ih (CtxOK.cons planWidth_ok (CtxOK.cons keepsAll_ok (CtxOK.nil tyOK)))
 have hM : Try.prog.follows .mixedOrders = true := Try.checked.mixed
 refine FnOK.of_body Try.func86 (by kernel_rfl) rfl (C := (mkCtx tyL [(86, (dupFree_spn fuel)), (112, planWidth_sp), (121, keepsAll_sp)])) hC.ty (by kernel_rfl) ?_
 intro (p : Pln) (ws : List Int) (sets : List Bool) hwf hpre E
 have hpre : (PS ws sets p) ∧ SizeOf.sizeOf p < fuel + 1 := hpre
 have hw_p : Wf ⟨(.named 2), (p : Pln)⟩ := hwf _ (List.Mem.head _)
 have hr_p_Kind : -9223372036854775808 ≤ Pln.Kind p ∧ Pln.Kind p ≤ 9223372036854775807 := (hw_p.field (tv := ⟨(.int .i64), Pln.Kind p⟩) (List.Mem.head _)).int_inv
 have hr_p_Table : -9223372036854775808 ≤ Pln.Table p ∧ Pln.Table p ≤ 9223372036854775807 := (hw_p.field (tv := ⟨(.int .i64), Pln.Table p⟩) (List.Mem.tail _ (List.Mem.head _))).int_inv
 have hl_p_Exprs : ((List.length (Pln.Exprs p) : Nat) : Int) ≤ 9223372036854775807 := (hw_p.field (tv := ⟨(.slice (.named 1)), Pln.Exprs p⟩) (List.Mem.tail _ (List.Mem.tail _ (List.Mem.head _)))).len
 have hl_p_Cols : ((List.length (Pln.Cols p) : Nat) : Int) ≤ 9223372036854775807 := (hw_p.field (tv := ⟨(.slice (.int .i64)), Pln.Cols p⟩) (List.Mem.tail _ (List.Mem.tail _ (List.Mem.tail _ (List.Mem.head _))))).len
 have hl_p_Kids : ((List.length (Pln.Kids p) : Nat) : Int) ≤ 9223372036854775807 := (hw_p.field (tv := ⟨(.slice (.named 2)), Pln.Kids p⟩) (List.Mem.tail _ (List.Mem.tail _ (List.Mem.tail _ (List.Mem.tail _ (List.Mem.head _)))))).len
 have hw_ws : Wf ⟨(.slice (.int .i64)), (ws : List Int)⟩ := hwf _ (List.Mem.tail _ (List.Mem.head _))
 have hl_ws : ((List.length ws : Nat) : Int) ≤ 9223372036854775807 := hw_ws.len
 have hw_sets : Wf ⟨(.slice .bool), (sets : List Bool)⟩ := hwf _ (List.Mem.tail _ (List.Mem.tail _ (List.Mem.head _)))
 have hl_sets : ((List.length sets : Nat) : Int) ≤ 9223372036854775807 := hw_sets.len
 obtain ⟨hO, hT, -⟩ := hpre.1.1.pvn.of
 have hpc := parts2 (Pln.Kind p)
 have hOk := hO.kids
 have hOc := hO.kind
 have hSl := hpre.1.2
 have e0 : dupFree_r (fuel + 1) p ws sets = dupFree_r (fuel + 1) p ws sets := rfl
 refine AW.seq ?_
 refine AW.reg hC  false [] [1, 2, 3] [12]
  ⟨[(1, .data (.slice (.int .i64)) (ws : List Int)), (2, .data (.slice .bool) (sets : List Bool)), (3, .ref 12 1 0)], [(12, .box 1 [.int .i64 (Pln.Kind p), .int .i64 (Pln.Table p), .data (.slice (.named 1)) ((Pln.Exprs p) : List Xpr), .data (.slice (.int .i64)) ((Pln.Cols p) : List Int), .data (.slice (.named 2)) ((Pln.Kids p) : List Pln)])]⟩
  [] (by kernel_rfl) ?_ ?_
 ·
  exact trivial
 refine AW.seq ?_
 refine AW.seq ?_
 refine AW.reg hC  false [] [1, 2, 3, 9] [12]
  ⟨[(1, .data (.slice (.int .i64)) (ws : List Int)), (2, .data (.slice .bool) (sets : List Bool)), (3, .ref 12 1 0), (9, .int .i64 (Pln.Kind p))], [(12, .box 1 [.int .i64 (Pln.Kind p), .int .i64 (Pln.Table p), .data (.slice (.named 1)) ((Pln.Exprs p) : List Xpr), .data (.slice (.int .i64)) ((Pln.Cols p) : List Int), .data (.slice (.named 2)) ((Pln.Kids p) : List Pln)])]⟩
  [] (by kernel_rfl) ?_ ?_
 ·
  exact trivial
 refine AW.block ?_
 refine AW.seq ?_
 refine AW.reg hC  false [] [1, 2, 3, 9, 10] [12]
  ⟨[(1, .data (.slice (.int .i64)) (ws : List Int)), (2, .data (.slice .bool) (sets : List Bool)), (3, .ref 12 1 0), (9, .int .i64 (Pln.Kind p)), (10, .bool ((Pln.Kind p) == 1))], [(12, .box 1 [.int .i64 (Pln.Kind p), .int .i64 (Pln.Table p), .data (.slice (.named 1)) ((Pln.Exprs p) : List Xpr), .data (.slice (.int .i64)) ((Pln.Cols p) : List Int), .data (.slice (.named 2)) ((Pln.Kids p) : List Pln)])]⟩
  [] (by kernel_rfl) ?_ ?_
 ·
  exact trivial
 refine AW.cond (b := ((Pln.Kind p) == 1)) (by kernel_rfl) ?_ ?_
 ·
  intro h382
  have h382q : (Pln.Kind p) = 1 := (Go.Am.beq_pos h382)
  have e383 := e0.trans (Go.Am.bif_t h382)
  refine AW.seq ?_
  refine AW.reg hC  false [] [6] []
   ⟨[(6, .bool (List.getD sets (Int.toNat (Pln.Table p)) false))], []⟩
   [(0 ≤ (Pln.Table p) ∧ (Pln.Table p) < ((List.length sets : Nat) : Int))] (by kernel_rfl) ?_ ?_
  ·
   refine ⟨?_, trivial⟩
   ·
    first | omega | (dsimp only; omega) | (simp only [lens] at *; omega)
  refine AW.ret ?_
  exact AW.retE (β := Bool) (fun v => [⟨.bool, v⟩]) (fun v => []) (v := (List.getD sets (Int.toNat (Pln.Table p)) false)) e383 (by kernel_rfl) rfl rfl
 ·
  intro h384
  have h384q : (Pln.Kind p) ≠ 1 := (Go.Am.beq_neg h384)
  have e385 := e0.trans (Go.Am.bif_f h384)
  refine AW.seq ?_
  refine AW.reg hC  false [] [1, 2, 3, 9, 17] [12]
   ⟨[(1, .data (.slice (.int .i64)) (ws : List Int)), (2, .data (.slice .bool) (sets : List Bool)), (3, .ref 12 1 0), (9, .int .i64 (Pln.Kind p)), (17, .bool ((Pln.Kind p) == 6))], [(12, .box 1 [.int .i64 (Pln.Kind p), .int .i64 (Pln.Table p), .data (.slice (.named 1)) ((Pln.Exprs p) : List Xpr), .data (.slice (.int .i64)) ((Pln.Cols p) : List Int), .data (.slice (.named 2)) ((Pln.Kids p) : List Pln)])]⟩
   [] (by kernel_rfl) ?_ ?_
  ·
   exact trivial
  refine AW.cond (b := ((Pln.Kind p) == 6)) (by kernel_rfl) ?_ ?_
  ·
   intro h441
   have h441q : (Pln.Kind p) = 6 := (Go.Am.beq_pos h441)
   have e442 := e385.trans (Go.Am.bif_t h441)
   refine AW.seq ?_
   refine AW.reg hC  false [] [6] []
    ⟨[(6, .bool false)], []⟩
    [] (by kernel_rfl) ?_ ?_
   ·
    exact trivial
   refine AW.ret ?_
   exact AW.retE (β := Bool) (fun v => [⟨.bool, v⟩]) (fun v => []) (v := false) e442 (by kernel_rfl) rfl rfl
  ·
   intro h443
   have h443q : (Pln.Kind p) ≠ 6 := (Go.Am.beq_neg h443)
   have e444 := e385.trans (Go.Am.bif_f h443)
   refine AW.seq ?_
   refine AW.seq ?_
   refine AW.reg hC  false [] [1, 2, 3, 9, 19] [12]
    ⟨[(1, .data (.slice (.int .i64)) (ws : List Int)), (2, .data (.slice .bool) (sets : List Bool)), (3, .ref 12 1 0), (9, .int .i64 (Pln.Kind p)), (19, .bool ((Pln.Kind p) == 7))], [(12, .box 1 [.int .i64 (Pln.Kind p), .int .i64 (Pln.Table p), .data (.slice (.named 1)) ((Pln.Exprs p) : List Xpr), .data (.slice (.int .i64)) ((Pln.Cols p) : List Int), .data (.slice (.named 2)) ((Pln.Kids p) : List Pln)])]⟩
    [] (by kernel_rfl) ?_ ?_
   ·
    exact trivial
   refine AW.cutQ (α := Bool) (fun x => ⟨[(1, .data (.slice (.int .i64)) (ws : List Int)), (2, .data (.slice .bool) (sets : List Bool)), (3, .ref 12 1 0), (9, .int .i64 (Pln.Kind p)), (19, .bool x)], [(12, .box 1 [.int .i64 (Pln.Kind p), .int .i64 (Pln.Table p), .data (.slice (.named 1)) ((Pln.Exprs p) : List Xpr), .data (.slice (.int .i64)) ((Pln.Cols p) : List Int), .data (.slice (.named 2)) ((Pln.Kids p) : List Pln)])]⟩) (fun x => (True) ∧ (dupFree_j0 p) = x) ?_ ?_
   ·
    skip
    have e453 : (dupFree_j0 p) = (dupFree_j0 p) := rfl
    refine AW.cond (b := ((Pln.Kind p) == 7)) (by kernel_rfl) ?_ ?_
    ·
     intro h454
     have h454q : (Pln.Kind p) = 7 := (Go.Am.beq_pos h454)
     have e455 := e453.trans (Go.Am.bif_t h454)
     refine AW.skip ?_
     refine AW.meet ((Pln.Kind p) == 7) (by kernel_rfl) ⟨?_, e455⟩
     show True
     first | exact trivial | assumption | omega
    ·
     intro h456
     have h456q : (Pln.Kind p) ≠ 7 := (Go.Am.beq_neg h456)
     have e457 := e453.trans (Go.Am.bif_f h456)
     refine AW.reg hC  false [] [1, 2, 3, 9, 19] [12]
      ⟨[(1, .data (.slice (.int .i64)) (ws : List Int)), (2, .data (.slice .bool) (sets : List Bool)), (3, .ref 12 1 0), (9, .int .i64 (Pln.Kind p)), (19, .bool ((Pln.Kind p) == 8))], [(12, .box 1 [.int .i64 (Pln.Kind p), .int .i64 (Pln.Table p), .data (.slice (.named 1)) ((Pln.Exprs p) : List Xpr), .data (.slice (.int .i64)) ((Pln.Cols p) : List Int), .data (.slice (.named 2)) ((Pln.Kids p) : List Pln)])]⟩
      [] (by kernel_rfl) ?_ ?_
     ·
      exact trivial
     refine AW.meet ((Pln.Kind p) == 8) (by kernel_rfl) ⟨?_, e457⟩
     show True
     first | exact trivial | assumption | omega
   ·
    intro v19 hR
    obtain ⟨hM0, e458⟩ := hR
    replace hM0 : True := hM0
    have e459 := e444.trans (Go.Am.then_eq e458)
    refine AW.cond (b := v19) (by kernel_rfl) ?_ ?_
    ·
     intro h476
     have h476q : v19 = true := h476
     have e477 := e459.trans (Go.Am.bif_t h476)
     refine AW.seq ?_
     refine AW.reg hC  false [] [6] []
      ⟨[(6, .bool true)], []⟩
      [] (by kernel_rfl) ?_ ?_
     ·
      exact trivial
     refine AW.ret ?_
     exact AW.retE (β := Bool) (fun v => [⟨.bool, v⟩]) (fun v => []) (v := true) e477 (by kernel_rfl) rfl rfl
    ·
     intro h478
     have h478q : v19 = false := h478
     have e479 := e459.trans (Go.Am.bif_f h478)
     refine AW.seq ?_
     refine AW.reg hC  false [] [1, 2, 3, 22] [12]
      ⟨[(1, .data (.slice (.int .i64)) (ws : List Int)), (2, .data (.slice .bool) (sets : List Bool)), (3, .ref 12 1 0), (22, .bool ((Pln.Kind p) == 3))], [(12, .box 1 [.int .i64 (Pln.Kind p), .int .i64 (Pln.Table p), .data (.slice (.named 1)) ((Pln.Exprs p) : List Xpr), .data (.slice (.int .i64)) ((Pln.Cols p) : List Int), .data (.slice (.named 2)) ((Pln.Kids p) : List Pln)])]⟩
      [] (by kernel_rfl) ?_ ?_
     ·
      exact trivial
     refine AW.cond (b := ((Pln.Kind p) == 3)) (by kernel_rfl) ?_ ?_
     ·
      intro h485
      have h485q : (Pln.Kind p) = 3 := (Go.Am.beq_pos h485)
      have e486 := e479.trans (Go.Am.bif_t h485)
      refine AW.seq ?_
      refine AW.regD hC hM  false [] [6] []
       ⟨[(6, .bool (bif (keepsAll (Pln.Exprs p) (planWidth (List.getD (Pln.Kids p) 0 Pln.zero) ws 8)) then ((dupFree_r fuel) (List.getD (Pln.Kids p) 0 Pln.zero) ws sets) else false))], []⟩
       [(0 ≤ (0 : Int) ∧ (0 : Int) < ((List.length (Pln.Kids p) : Nat) : Int)), (VW ws ∧ (0 ≤ (8 : Int) ∧ (8 : Int) ≤ 8)), (True), (((keepsAll (Pln.Exprs p) (planWidth (List.getD (Pln.Kids p) 0 Pln.zero) ws 8)) = true) → (((keepsAll (Pln.Exprs p) (planWidth (List.getD (Pln.Kids p) 0 Pln.zero) ws 8)) = true))), (((keepsAll (Pln.Exprs p) (planWidth (List.getD (Pln.Kids p) 0 Pln.zero) ws 8)) = true) → (((keepsAll (Pln.Exprs p) (planWidth (List.getD (Pln.Kids p) 0 Pln.zero) ws 8)) = true))), (((keepsAll (Pln.Exprs p) (planWidth (List.getD (Pln.Kids p) 0 Pln.zero) ws 8)) = true) → (0 ≤ (0 : Int) ∧ (0 : Int) < ((List.length (Pln.Kids p) : Nat) : Int))), (((keepsAll (Pln.Exprs p) (planWidth (List.getD (Pln.Kids p) 0 Pln.zero) ws 8)) = true) → (((keepsAll (Pln.Exprs p) (planWidth (List.getD (Pln.Kids p) 0 Pln.zero) ws 8)) = true))), (((keepsAll (Pln.Exprs p) (planWidth (List.getD (Pln.Kids p) 0 Pln.zero) ws 8)) = true) → (((keepsAll (Pln.Exprs p) (planWidth (List.getD (Pln.Kids p) 0 Pln.zero) ws 8)) = true))), (((keepsAll (Pln.Exprs p) (planWidth (List.getD (Pln.Kids p) 0 Pln.zero) ws 8)) = true) → (((keepsAll (Pln.Exprs p) (planWidth (List.getD (Pln.Kids p) 0 Pln.zero) ws 8)) = true))), (((keepsAll (Pln.Exprs p) (planWidth (List.getD (Pln.Kids p) 0 Pln.zero) ws 8)) = true) → (((keepsAll (Pln.Exprs p) (planWidth (List.getD (Pln.Kids p) 0 Pln.zero) ws 8)) = true))), (((keepsAll (Pln.Exprs p) (planWidth (List.getD (Pln.Kids p) 0 Pln.zero) ws 8)) = true) → ((PS ws sets (List.getD (Pln.Kids p) 0 Pln.zero)) ∧ SizeOf.sizeOf (List.getD (Pln.Kids p) 0 Pln.zero) < fuel)), (((keepsAll (Pln.Exprs p) (planWidth (List.getD (Pln.Kids p) 0 Pln.zero) ws 8)) = true) → (((keepsAll (Pln.Exprs p) (planWidth (List.getD (Pln.Kids p) 0 Pln.zero) ws 8)) = true)))] (by kernel_rfl) ?_ ?_
      ·
       refine ⟨?_, ?_, ?_, ?_, ?_, ?_, ?_, ?_, ?_, ?_, ?_, ?_, trivial⟩
       ·
        first | omega | (dsimp only; omega) | (simp only [lens] at *; omega)
       ·
        exact ⟨hpre.1.1.1, by decide, by decide⟩
       ·
        trivial
       ·
        intro g487
        have g487p0 : (keepsAll (Pln.Exprs p) (planWidth (List.getD (Pln.Kids p) 0 Pln.zero) ws 8)) = true := g487
        first | assumption | exact ⟨by assumption, by assumption⟩
       ·
        intro g488
        have g488p0 : (keepsAll (Pln.Exprs p) (planWidth (List.getD (Pln.Kids p) 0 Pln.zero) ws 8)) = true := g488
        first | assumption | exact ⟨by assumption, by assumption⟩
       ·
        intro g489
        have g489p0 : (keepsAll (Pln.Exprs p) (planWidth (List.getD (Pln.Kids p) 0 Pln.zero) ws 8)) = true := g489
        first | omega | (dsimp only; omega) | (simp only [lens] at *; omega)
       ·
        intro g490
        have g490p0 : (keepsAll (Pln.Exprs p) (planWidth (List.getD (Pln.Kids p) 0 Pln.zero) ws 8)) = true := g490
        first | assumption | exact ⟨by assumption, by assumption⟩
       ·
        intro g491
        have g491p0 : (keepsAll (Pln.Exprs p) (planWidth (List.getD (Pln.Kids p) 0 Pln.zero) ws 8)) = true := g491
        first | assumption | exact ⟨by assumption, by assumption⟩
       ·
        intro g492
        have g492p0 : (keepsAll (Pln.Exprs p) (planWidth (List.getD (Pln.Kids p) 0 Pln.zero) ws 8)) = true := g492
        first | assumption | exact ⟨by assumption, by assumption⟩
       ·
        intro g493
        have g493p0 : (keepsAll (Pln.Exprs p) (planWidth (List.getD (Pln.Kids p) 0 Pln.zero) ws 8)) = true := g493
        first | assumption | exact ⟨by assumption, by assumption⟩
       ·
        intro g494
        have g494p0 : (keepsAll (Pln.Exprs p) (planWidth (List.getD (Pln.Kids p) 0 Pln.zero) ws 8)) = true := g494
        exact ⟨hpre.1.kid (by omega), Nat.lt_of_lt_of_le (pkid_lt (by omega)) (Nat.le_of_lt_succ hpre.2)⟩
       ·
        intro g495
        have g495p0 : (keepsAll (Pln.Exprs p) (planWidth (List.getD (Pln.Kids p) 0 Pln.zero) ws 8)) = true := g495
        first | assumption | exact ⟨by assumption, by assumption⟩
      refine AW.ret ?_
      exact AW.retE (β := Bool) (fun v => [⟨.bool, v⟩]) (fun v => []) (v := (bif (keepsAll (Pln.Exprs p) (planWidth (List.getD (Pln.Kids p) 0 Pln.zero) ws 8)) then ((dupFree_r fuel) (List.getD (Pln.Kids p) 0 Pln.zero) ws sets) else false)) e486 (by kernel_rfl) rfl rfl
     ·
      intro h496
      have h496q : (Pln.Kind p) ≠ 3 := (Go.Am.beq_neg h496)
      have e497 := e479.trans (Go.Am.bif_f h496)
      refine AW.keep [1, 2, 3] [12] ⟨[(1, .data (.slice (.int .i64)) (ws : List Int)), (2, .data (.slice .bool) (sets : List Bool)), (3, .ref 12 1 0)], [(12, .box 1 [.int .i64 (Pln.Kind p), .int .i64 (Pln.Table p), .data (.slice (.named 1)) ((Pln.Exprs p) : List Xpr), .data (.slice (.int .i64)) ((Pln.Cols p) : List Int), .data (.slice (.named 2)) ((Pln.Kids p) : List Pln)])]⟩ (by kernel_rfl) ?_
      refine AW.skip ?_
      refine AW.seq ?_
      refine AW.seq ?_
      refine AW.reg hC  false [] [1, 2, 3, 7] [12]
       ⟨[(1, .data (.slice (.int .i64)) (ws : List Int)), (2, .data (.slice .bool) (sets : List Bool)), (3, .ref 12 1 0), (7, .int .i64 0)], [(12, .box 1 [.int .i64 (Pln.Kind p), .int .i64 (Pln.Table p), .data (.slice (.named 1)) ((Pln.Exprs p) : List Xpr), .data (.slice (.int .i64)) ((Pln.Cols p) : List Int), .data (.slice (.named 2)) ((Pln.Kids p) : List Pln)])]⟩
       [] (by kernel_rfl) ?_ ?_
      ·
       exact trivial
      refine AW.cutQ (α := Unit) (fun x => ⟨[], []⟩) (fun x => (True) ∧ (dupFree_l0 (dupFree_r fuel) p ws sets ((List.length (Pln.Kids p)) - 0 + 1) 0) = (.inl ())) ?_ ?_
      ·
       skip
       refine AW.block ?_
       refine AW.loop (α := Nat) (fun x => ⟨[(1, .data (.slice (.int .i64)) (ws : List Int)), (2, .data (.slice .bool) (sets : List Bool)), (3, .ref 12 1 0), (7, .int .i64 ((x : Nat) : Int))], [(12, .box 1 [.int .i64 (Pln.Kind p), .int .i64 (Pln.Table p), .data (.slice (.named 1)) ((Pln.Exprs p) : List Xpr), .data (.slice (.int .i64)) ((Pln.Cols p) : List Int), .data (.slice (.named 2)) ((Pln.Kids p) : List Pln)])]⟩) (fun x => (True) ∧ ∃ k, (List.length (Pln.Kids p)) - x < k ∧ (dupFree_l0 (dupFree_r fuel) p ws sets ((List.length (Pln.Kids p)) - 0 + 1) 0) = dupFree_l0 (dupFree_r fuel) p ws sets k x) (fun x => (List.length (Pln.Kids p)) - x) 0 (by kernel_rfl) ⟨?_, _, Nat.lt_succ_self _, rfl⟩ ?_
       ·
        show True
        first | exact trivial | (refine ⟨?_, ?_⟩ <;> first | omega | simp) | omega | simp
       ·
        intro i hR
        obtain ⟨hI0, k596, hk594, e595⟩ := hR
        replace hI0 : True := hI0
        replace hk594 : (List.length (Pln.Kids p)) - i < k596 := hk594
        obtain ⟨k596q, rfl⟩ : ∃ k, k596 = k + 1 := ⟨k596 - 1, by omega⟩
        refine AW.seq ?_
        refine AW.seq ?_
        refine AW.reg hC  false [] [1, 2, 3, 7, 46] [12]
         ⟨[(1, .data (.slice (.int .i64)) (ws : List Int)), (2, .data (.slice .bool) (sets : List Bool)), (3, .ref 12 1 0), (7, .int .i64 ((i : Nat) : Int)), (46, .bool (decide (((i : Nat) : Int) < ((List.length (Pln.Kids p) : Nat) : Int))))], [(12, .box 1 [.int .i64 (Pln.Kind p), .int .i64 (Pln.Table p), .data (.slice (.named 1)) ((Pln.Exprs p) : List Xpr), .data (.slice (.int .i64)) ((Pln.Cols p) : List Int), .data (.slice (.named 2)) ((Pln.Kids p) : List Pln)])]⟩
         [] (by kernel_rfl) ?_ ?_
        ·
         exact trivial
        refine AW.cond (b := (decide (((i : Nat) : Int) < ((List.length (Pln.Kids p) : Nat) : Int)))) (by kernel_rfl) ?_ ?_
        ·
         intro h601
         have h601q : ((i : Nat) : Int) < ((List.length (Pln.Kids p) : Nat) : Int) := (of_decide_eq_true h601)
         have e602 := e595.trans (Go.Am.bif_t h601)
         refine AW.keep [1, 2, 3, 7] [12] ⟨[(1, .data (.slice (.int .i64)) (ws : List Int)), (2, .data (.slice .bool) (sets : List Bool)), (3, .ref 12 1 0), (7, .int .i64 ((i : Nat) : Int))], [(12, .box 1 [.int .i64 (Pln.Kind p), .int .i64 (Pln.Table p), .data (.slice (.named 1)) ((Pln.Exprs p) : List Xpr), .data (.slice (.int .i64)) ((Pln.Cols p) : List Int), .data (.slice (.named 2)) ((Pln.Kids p) : List Pln)])]⟩ (by kernel_rfl) ?_
         refine AW.skip ?_
         refine AW.seq ?_
         refine AW.block ?_
         refine AW.seq ?_
         refine AW.reg hC  false [] [1, 2, 3, 7, 57] [12]
          ⟨[(1, .data (.slice (.int .i64)) (ws : List Int)), (2, .data (.slice .bool) (sets : List Bool)), (3, .ref 12 1 0), (7, .int .i64 ((i : Nat) : Int)), (57, .bool (!((dupFree_r fuel) (List.getD (Pln.Kids p) i Pln.zero) ws sets)))], [(12, .box 1 [.int .i64 (Pln.Kind p), .int .i64 (Pln.Table p), .data (.slice (.named 1)) ((Pln.Exprs p) : List Xpr), .data (.slice (.int .i64)) ((Pln.Cols p) : List Int), .data (.slice (.named 2)) ((Pln.Kids p) : List Pln)])]⟩
          [(0 ≤ ((i : Nat) : Int) ∧ ((i : Nat) : Int) < ((List.length (Pln.Kids p) : Nat) : Int)), ((PS ws sets (List.getD (Pln.Kids p) i Pln.zero)) ∧ SizeOf.sizeOf (List.getD (Pln.Kids p) i Pln.zero) < fuel)] (by kernel_rfl) ?_ ?_
         ·
          refine ⟨?_, ?_, trivial⟩
          ·
           first | omega | (dsimp only; omega) | (simp only [lens] at *; omega)
          ·
           exact ⟨hpre.1.kid (by omega), Nat.lt_of_lt_of_le (pkid_lt (by omega)) (Nat.le_of_lt_succ hpre.2)⟩
         refine AW.cond (b := (!((dupFree_r fuel) (List.getD (Pln.Kids p) i Pln.zero) ws sets))) (by kernel_rfl) ?_ ?_
         ·
          intro h622
          have h622q : ((dupFree_r fuel) (List.getD (Pln.Kids p) i Pln.zero) ws sets) = false := (Go.Am.not_pos h622)
          have e623 := e602.trans (Go.Am.bif_t h622)
          refine AW.seq ?_
          refine AW.reg hC  false [] [6] []
           ⟨[(6, .bool false)], []⟩
           [] (by kernel_rfl) ?_ ?_
          ·
           exact trivial
          refine AW.ret ?_
          have e624 := e497.trans (Go.Am.elim_r e623)
          exact AW.retE (β := Bool) (fun v => [⟨.bool, v⟩]) (fun v => []) (v := false) e624 (by kernel_rfl) rfl rfl
         ·
          intro h625
          have h625q : ((dupFree_r fuel) (List.getD (Pln.Kids p) i Pln.zero) ws sets) = true := (Go.Am.not_neg h625)
          have e626 := e602.trans (Go.Am.bif_f h625)
          refine AW.keep [1, 2, 3, 7] [12] ⟨[(1, .data (.slice (.int .i64)) (ws : List Int)), (2, .data (.slice .bool) (sets : List Bool)), (3, .ref 12 1 0), (7, .int .i64 ((i : Nat) : Int))], [(12, .box 1 [.int .i64 (Pln.Kind p), .int .i64 (Pln.Table p), .data (.slice (.named 1)) ((Pln.Exprs p) : List Xpr), .data (.slice (.int .i64)) ((Pln.Cols p) : List Int), .data (.slice (.named 2)) ((Pln.Kids p) : List Pln)])]⟩ (by kernel_rfl) ?_
          refine AW.skip ?_
          refine AW.reg hC  false [] [1, 2, 3, 7] [12]
           ⟨[(1, .data (.slice (.int .i64)) (ws : List Int)), (2, .data (.slice .bool) (sets : List Bool)), (3, .ref 12 1 0), (7, .int .i64 ((i + 1 : Nat) : Int))], [(12, .box 1 [.int .i64 (Pln.Kind p), .int .i64 (Pln.Table p), .data (.slice (.named 1)) ((Pln.Exprs p) : List Xpr), .data (.slice (.int .i64)) ((Pln.Cols p) : List Int), .data (.slice (.named 2)) ((Pln.Kids p) : List Pln)])]⟩
           [(-9223372036854775808 ≤ ((i + 1 : Nat) : Int) ∧ ((i + 1 : Nat) : Int) ≤ 9223372036854775807)] (by kernel_rfl) ?_ ?_
          ·
           refine ⟨?_, trivial⟩
           ·
            first | omega | (dsimp only; omega) | (simp only [lens] at *; omega)
          refine AW.back (x := i) (i + 1) (by kernel_rfl) ⟨?_, k596q, ?_, e626⟩ ?_
          ·
           show True
           first | assumption | exact trivial | (refine ⟨?_, ?_⟩ <;> first | omega | (simp only [lens] at *; omega)) | omega | (simp only [lens] at *; omega)
          ·
           show (List.length (Pln.Kids p)) - (i + 1) < k596q
           first | omega | (simp only [lens]; omega)
          ·
           show (List.length (Pln.Kids p)) - (i + 1) < (List.length (Pln.Kids p)) - i
           first | omega | (simp only [lens]; omega)
        ·
         intro h627
         have h627q : ¬ (((i : Nat) : Int) < ((List.length (Pln.Kids p) : Nat) : Int)) := (of_decide_eq_false h627)
         have e628 := e595.trans (Go.Am.bif_f h627)
         refine AW.keep [] [] ⟨[], []⟩ (by kernel_rfl) ?_
         refine AW.exit ?_
         refine AW.meet () (by kernel_rfl) ⟨?_, e628⟩
         show True
         first | assumption | exact trivial | omega
      ·
       intro x hR
       obtain ⟨hJ0, e629⟩ := hR
       replace hJ0 : True := hJ0
       have e630 := e497.trans (Go.Am.elim_l e629)
       refine AW.seq ?_
       refine AW.reg hC  false [] [6] []
        ⟨[(6, .bool true)], []⟩
        [] (by kernel_rfl) ?_ ?_
       ·
        exact trivial
       refine AW.ret ?_
       exact AW.retE (β := Bool) (fun v => [⟨.bool, v⟩]) (fun v => []) (v := true) e630 (by kernel_rfl) rfl rfl

theorem dupFree_fu : AllTV (dupFree_sp.ps.map PK.ty) (fun tvs => dupFree_sp.pre tvs → ∃ k, (dupFree_spn k).pre tvs ∧ (dupFree_spn k).fn tvs = dupFree_sp.fn tvs ∧ (dupFree_spn k).bx tvs = dupFree_sp.bx tvs) :=
 (fun (p : Pln) (ws : List Int) (sets : List Bool) h => ⟨SizeOf.sizeOf p + 1, (show (PS ws sets p) ∧ SizeOf.sizeOf p < SizeOf.sizeOf p + 1 from ⟨h, Nat.lt_succ_self _⟩), (show (dupFree_spn (SizeOf.sizeOf p + 1)).fn [⟨(.named 2), (p : Pln)⟩, ⟨(.slice (.int .i64)), (ws : List Int)⟩, ⟨(.slice .bool), (sets : List Bool)⟩] = ([⟨.bool, (dupFree_r (SizeOf.sizeOf p + 1) p ws sets)⟩] : List TV) from by kernel_rfl).trans (show ([⟨.bool, (dupFree_r (SizeOf.sizeOf p + 1) p ws sets)⟩] : List TV) = dupFree_sp.fn [⟨(.named 2), (p : Pln)⟩, ⟨(.slice (.int .i64)), (ws : List Int)⟩, ⟨(.slice .bool), (sets : List Bool)⟩] from by kernel_rfl), by kernel_rfl⟩)

theorem dupFree_ok : FnOK Try.prog 86 dupFree_sp := FnOK.of_fuel dupFree_okn (fun _ => rfl) (fun _ => rfl) (AllTV.get dupFree_fu)

end
end Go.Proofs.Ytodcdgolcbdkgaa
