/-
  A part of the proof of this claim (AfB): what functions of the program compute, and plain facts of that. No conditions.
-/
import Derived.Test.YtjhnpnnlimpgdaaAfA
set_option linter.all false
namespace Go.Proofs.Ytjhnpnnlimpgdaa
open Go Go.Am
noncomputable section

def iFoldExpr (e : Xpr) : Xpr := (bif (!(iValidExpr e 6)) then (Xpr.mk 0 0 (Val.mk false 0) ([] : List Xpr)) else (Xpr.mk (Xpr.Kind (folded e)) (Xpr.Col (folded e)) (Xpr.V (folded e)) (Xpr.Kids (folded e))))

def iFoldExpr_sp : FnSpec := mkSpec [.val (.named 1)] [.val (.named 1)] (fun (e : Xpr) => True) (fun (e : Xpr) => [⟨(.named 1), (iFoldExpr e)⟩])

theorem iFoldExpr_ok : FnOK Try.prog 6 iFoldExpr_sp := by
 have hC : CtxOK Try.prog (mkCtx tyL [(9, iValidExpr_sp), (19, folded_sp)]) := CtxOK.cons iValidExpr_ok (CtxOK.cons folded_ok (CtxOK.nil tyOK))
 refine FnOK.of_body Try.func6 (by kernel_rfl) rfl (C := (mkCtx tyL [(9, iValidExpr_sp), (19, folded_sp)])) hC.ty (by kernel_rfl) ?_
 intro (e : Xpr) hwf hpre E
 have hpre : True := hpre
 have hw_e : Wf ⟨(.named 1), (e : Xpr)⟩ := hwf _ (List.Mem.head _)
 obtain ⟨hr_e_Kind, hr_e_Col, hl_e_Kids⟩ := Xpr.wfl hw_e
 have e0 : iFoldExpr e = iFoldExpr e := rfl
 refine AW.seq (AW.regionO [0, 1] (by rfl) ?_)
 refine AWO.boxD (t := (.named 1)) (sv := sD4 e) (y := (e : Xpr)) (by rfl) (by rfl) (by kernel_rfl) (by kernel_rfl) (by kernel_rfl) ?_
 refine AWO.keep [1] [] ⟨[(1, sR4 e)], []⟩ (by kernel_rfl) ?_
 refine AWO.run hC false [] [1] [] [1, 2] [8]
  ⟨[(1, sR4 e), (2, .ref 8 1 0)], [(8, .box 1 [sI 0, sI 0, sB false, sI 0, .nilsl])]⟩
  [] (by rfl) (by kernel_rfl) ?_ ?_
 ·
  exact trivial
 refine AWO.nil ?_
 refine AW.seq (AW.seq (AW.r0 hC [1, 2, 5] [8] ⟨[(1, sR4 e), (2, .ref 8 1 0), (5, sB (!(iValidExpr e 6)))], [(8, .box 1 [sI 0, sI 0, sB false, sI 0, .nilsl])]⟩ [(True)] ?_ ?_))
 ·
  refine ⟨?_, trivial⟩
  ·
   trivial
 refine AW.cd (!(iValidExpr e 6)) ?_ ?_
 ·
  intro h1
  have h1q := (Go.Am.not_pos h1)
  have e2 := e0.trans (Go.Am.bif_t h1)
  refine AW.seq (AW.r1 hC [2] [8] ⟨[(2, .ref 8 1 0)], [(8, .box 1 [sI 0, sI 0, sB false, sI 0, .nilsl])]⟩ ?_)
  exact AW.ret (AW.retE (β := Xpr) (fun v => [⟨(.named 1), v⟩]) (fun v => []) (v := (Xpr.mk 0 0 (Val.mk false 0) ([] : List Xpr))) e2 (by kernel_rfl) rfl rfl)
 ·
  intro h3
  have h3q := (Go.Am.not_neg h3)
  have e4 := e0.trans (Go.Am.bif_f h3)
  refine AW.kp [1, 2] [8] ⟨[(1, sR4 e), (2, .ref 8 1 0)], [(8, .box 1 [sI 0, sI 0, sB false, sI 0, .nilsl])]⟩ ?_
  refine AW.skip (AW.seq (AW.r0 hC [2] [8] ⟨[(2, .ref 8 1 0)], [(8, .box 1 [sI (Xpr.Kind (folded e)), sI (Xpr.Col (folded e)), sB (Val.Null (Xpr.V (folded e))), sI (Val.N (Xpr.V (folded e))), sD9 (Xpr.Kids (folded e))])]⟩ [(∃ w, VL w e)] ?_ ?_))
  ·
   refine ⟨?_, trivial⟩
   ·
    exact ⟨6, 8, Nat.le_refl _, (iValidExpr_iff.1 h3q).2⟩
  exact AW.ret (AW.retE (β := Xpr) (fun v => [⟨(.named 1), v⟩]) (fun v => []) (v := (Xpr.mk (Xpr.Kind (folded e)) (Xpr.Col (folded e)) (Xpr.V (folded e)) (Xpr.Kids (folded e)))) e4 (by kernel_rfl) rfl rfl)

def FoldExpr (e : Xpr) : Xpr := (bif (!(ValidExpr (Xpr.mk (Xpr.Kind e) (Xpr.Col e) (Xpr.V e) (Xpr.Kids e)) 6)) then (Xpr.mk 0 0 (Val.mk false 0) ([] : List Xpr)) else (Xpr.mk (Xpr.Kind (fold (Xpr.mk (Xpr.Kind e) (Xpr.Col e) (Xpr.V e) (Xpr.Kids e)))) (Xpr.Col (fold (Xpr.mk (Xpr.Kind e) (Xpr.Col e) (Xpr.V e) (Xpr.Kids e)))) (Xpr.V (fold (Xpr.mk (Xpr.Kind e) (Xpr.Col e) (Xpr.V e) (Xpr.Kids e)))) (Xpr.Kids (fold (Xpr.mk (Xpr.Kind e) (Xpr.Col e) (Xpr.V e) (Xpr.Kids e))))))

def FoldExpr_sp : FnSpec := mkSpec [.val (.named 1)] [.val (.named 1)] (fun (e : Xpr) => True) (fun (e : Xpr) => [⟨(.named 1), (FoldExpr e)⟩])

theorem FoldExpr_ok : FnOK Try.prog 8 FoldExpr_sp := by
 have hC : CtxOK Try.prog (mkCtx tyL [(21, ValidExpr_sp), (22, fold_sp)]) := CtxOK.cons ValidExpr_ok (CtxOK.cons fold_ok (CtxOK.nil tyOK))
 refine FnOK.of_body Try.func8 (by kernel_rfl) rfl (C := (mkCtx tyL [(21, ValidExpr_sp), (22, fold_sp)])) hC.ty (by kernel_rfl) ?_
 intro (e : Xpr) hwf hpre E
 have hpre : True := hpre
 have hw_e : Wf ⟨(.named 1), (e : Xpr)⟩ := hwf _ (List.Mem.head _)
 obtain ⟨hr_e_Kind, hr_e_Col, hl_e_Kids⟩ := Xpr.wfl hw_e
 have e0 : FoldExpr e = FoldExpr e := rfl
 refine AW.seq (AW.r1 hC [1, 2] [4, 8] ⟨[(1, .ref 4 1 0), (2, .ref 8 1 0)], [(4, .box 1 [sI (Xpr.Kind e), sI (Xpr.Col e), sB (Val.Null (Xpr.V e)), sI (Val.N (Xpr.V e)), sD9 (Xpr.Kids e)]), (8, .box 1 [sI 0, sI 0, sB false, sI 0, .nilsl])]⟩ ?_)
 refine AW.seq (AW.seq (AW.r0 hC [1, 2, 5] [4, 8] ⟨[(1, .ref 4 1 0), (2, .ref 8 1 0), (5, sB (!(ValidExpr (Xpr.mk (Xpr.Kind e) (Xpr.Col e) (Xpr.V e) (Xpr.Kids e)) 6)))], [(4, .box 1 [sI (Xpr.Kind e), sI (Xpr.Col e), sB (Val.Null (Xpr.V e)), sI (Val.N (Xpr.V e)), sD9 (Xpr.Kids e)]), (8, .box 1 [sI 0, sI 0, sB false, sI 0, .nilsl])]⟩ [(True)] ?_ ?_))
 ·
  refine ⟨?_, trivial⟩
  ·
   trivial
 refine AW.cd (!(ValidExpr (Xpr.mk (Xpr.Kind e) (Xpr.Col e) (Xpr.V e) (Xpr.Kids e)) 6)) ?_ ?_
 ·
  intro h1
  have h1q := (Go.Am.not_pos h1)
  have e2 := e0.trans (Go.Am.bif_t h1)
  refine AW.seq (AW.r1 hC [2] [8] ⟨[(2, .ref 8 1 0)], [(8, .box 1 [sI 0, sI 0, sB false, sI 0, .nilsl])]⟩ ?_)
  exact AW.ret (AW.retE (β := Xpr) (fun v => [⟨(.named 1), v⟩]) (fun v => []) (v := (Xpr.mk 0 0 (Val.mk false 0) ([] : List Xpr))) e2 (by kernel_rfl) rfl rfl)
 ·
  intro h3
  have h3q := (Go.Am.not_neg h3)
  have e4 := e0.trans (Go.Am.bif_f h3)
  refine AW.kp [1, 2] [4, 8] ⟨[(1, .ref 4 1 0), (2, .ref 8 1 0)], [(4, .box 1 [sI (Xpr.Kind e), sI (Xpr.Col e), sB (Val.Null (Xpr.V e)), sI (Val.N (Xpr.V e)), sD9 (Xpr.Kids e)]), (8, .box 1 [sI 0, sI 0, sB false, sI 0, .nilsl])]⟩ ?_
  refine AW.skip (AW.seq (AW.r0 hC [2] [8] ⟨[(2, .ref 8 1 0)], [(8, .box 1 [sI (Xpr.Kind (fold (Xpr.mk (Xpr.Kind e) (Xpr.Col e) (Xpr.V e) (Xpr.Kids e)))), sI (Xpr.Col (fold (Xpr.mk (Xpr.Kind e) (Xpr.Col e) (Xpr.V e) (Xpr.Kids e)))), sB (Val.Null (Xpr.V (fold (Xpr.mk (Xpr.Kind e) (Xpr.Col e) (Xpr.V e) (Xpr.Kids e))))), sI (Val.N (Xpr.V (fold (Xpr.mk (Xpr.Kind e) (Xpr.Col e) (Xpr.V e) (Xpr.Kids e))))), sD9 (Xpr.Kids (fold (Xpr.mk (Xpr.Kind e) (Xpr.Col e) (Xpr.V e) (Xpr.Kids e))))])]⟩ [(∃ w, VL w (Xpr.mk (Xpr.Kind e) (Xpr.Col e) (Xpr.V e) (Xpr.Kids e)))] ?_ ?_))
  ·
   refine ⟨?_, trivial⟩
   ·
    rw [Xpr.eta]
    exact ⟨6, 8, Nat.le_refl _, (ValidExpr_iff.1 (Xpr.eta e ▸ h3q)).2⟩
  exact AW.ret (AW.retE (β := Xpr) (fun v => [⟨(.named 1), v⟩]) (fun v => []) (v := (Xpr.mk (Xpr.Kind (fold (Xpr.mk (Xpr.Kind e) (Xpr.Col e) (Xpr.V e) (Xpr.Kids e)))) (Xpr.Col (fold (Xpr.mk (Xpr.Kind e) (Xpr.Col e) (Xpr.V e) (Xpr.Kids e)))) (Xpr.V (fold (Xpr.mk (Xpr.Kind e) (Xpr.Col e) (Xpr.V e) (Xpr.Kids e)))) (Xpr.Kids (fold (Xpr.mk (Xpr.Kind e) (Xpr.Col e) (Xpr.V e) (Xpr.Kids e)))))) e4 (by kernel_rfl) rfl rfl)

def VC (e : Xpr) : Prop := ∃ w l, w ≤ 6 ∧ VE w l e

theorem VC.kid {e : Xpr} (h : VC e) {i : Nat} (hi : i < e.Kids.length) : VC (e.Kids.getD i Xpr.zero) := by
 obtain ⟨w, l, h1, h2⟩ := h
 obtain ⟨l', h3⟩ := h2.kid hi
 exact ⟨w, l', h1, h3⟩

theorem VC.col {e : Xpr} (h : VC e) (hk : e.Kind = 1) : 0 ≤ e.Col ∧ e.Col < 6 := by
 obtain ⟨w, l, h1, h2⟩ := h
 have := h2.node.col hk
 omega

theorem pow_lt6 {c : Int} (h : 0 ≤ c ∧ c < 6) : (1 : Int) ≤ 1 * 2 ^ c.toNat ∧ (1 : Int) * 2 ^ c.toNat ≤ 32 := by
 have : c = 0 ∨ c = 1 ∨ c = 2 ∨ c = 3 ∨ c = 4 ∨ c = 5 := by omega
 rcases this with rfl | rfl | rfl | rfl | rfl | rfl <;> decide

theorem pow_le6 {c : Int} (h : 0 ≤ c ∧ c ≤ 6) : (1 : Int) ≤ 1 * 2 ^ c.toNat ∧ (1 : Int) * 2 ^ c.toNat ≤ 64 := by
 have : c = 0 ∨ c = 1 ∨ c = 2 ∨ c = 3 ∨ c = 4 ∨ c = 5 ∨ c = 6 := by omega
 rcases this with rfl | rfl | rfl | rfl | rfl | rfl | rfl <;> decide

def columns_l0 (self : Xpr → Int) (e : Xpr) : Nat → Int → Nat → Int
 | 0, set_1, v20 => set_1
 | k + 1, set_1, v20 => (bif (decide (((v20 : Nat) : Int) < ((List.length (Xpr.Kids e) : Nat) : Int))) then (columns_l0 self e k (bits .or .i64 set_1 (self (List.getD (Xpr.Kids e) v20 Xpr.zero))) (v20 + 1)) else set_1)

def columns_r : Nat → Xpr → Int
 | 0, e => 0
 | fuel + 1, e => (bif ((Xpr.Kind e) == 1) then ((1 : Int) * 2 ^ (Int.toNat (Xpr.Col e))) else (Go.Am.andThen (columns_l0 (columns_r fuel) e ((List.length (Xpr.Kids e)) - 0 + 1) 0 0) (fun z => (fun (set_1 : Int) => set_1) z)))

def columns (e : Xpr) : Int := columns_r (SizeOf.sizeOf e + 1) e

def columns_spn (fuel : Nat) : FnSpec := mkSpec [.rd (.named 1)] [.val (.int .i64)] (fun (e : Xpr) => (VC e) ∧ SizeOf.sizeOf e < fuel) (fun (e : Xpr) => [⟨(.int .i64), (columns_r fuel e)⟩])

def columns_sp : FnSpec := mkSpec [.rd (.named 1)] [.val (.int .i64)] (fun (e : Xpr) => VC e) (fun (e : Xpr) => [⟨(.int .i64), (columns e)⟩])

theorem columns_okn (fuel : Nat) : FnOK Try.prog 25 (columns_spn fuel) := by
 induction fuel with
 | zero => exact FnOK.never Try.func25 (by kernel_rfl) rfl (fun _ h => absurd h.2 (Nat.not_lt_zero _))
 | succ fuel ih => ?_
 have hC : CtxOK Try.prog (mkCtx tyL [(25, (columns_spn fuel))]) := CtxOK.cons ih (CtxOK.nil tyOK)
 refine FnOK.of_body Try.func25 (by kernel_rfl) rfl (C := (mkCtx tyL [(25, (columns_spn fuel))])) hC.ty (by kernel_rfl) ?_
 intro (e : Xpr) hwf hpre E
 have hpre : (VC e) ∧ SizeOf.sizeOf e < fuel + 1 := hpre
 have hw_e : Wf ⟨(.named 1), (e : Xpr)⟩ := hwf _ (List.Mem.head _)
 obtain ⟨hr_e_Kind, hr_e_Col, hl_e_Kids⟩ := Xpr.wfl hw_e
 have e0 : columns_r (fuel + 1) e = columns_r (fuel + 1) e := rfl
 refine AW.seq (AW.r1 hC [0] [] ⟨[(0, sR4 e)], []⟩ ?_)
 refine AW.seq (AW.seq (AW.r1 hC [0, 9] [] ⟨[(0, sR4 e), (9, sB ((Xpr.Kind e) == 1))], []⟩ ?_))
 refine AW.cd ((Xpr.Kind e) == 1) ?_ ?_
 ·
  intro h1
  have h1q := (Go.Am.beq_pos h1)
  have e2 := e0.trans (Go.Am.bif_t h1)
  refine AW.seq (AW.r0 hC [2] [] ⟨[(2, sI ((1 : Int) * 2 ^ (Int.toNat (Xpr.Col e))))], []⟩ [(0 ≤ (Xpr.Col e) ∧ (Xpr.Col e) ≤ 64), R64 ((1 : Int) * 2 ^ (Int.toNat (Xpr.Col e)))] ?_ ?_)
  ·
   refine ⟨?_, ?_, trivial⟩
   ·
    have hc := hpre.1.col (by omega)
    have := pow_lt6 hc
    omega
   ·
    refine R64.of ?_
    have hc := hpre.1.col (by omega)
    have := pow_lt6 hc
    omega
  exact AW.ret (AW.rI ((1 : Int) * 2 ^ (Int.toNat (Xpr.Col e))) e2)
 ·
  intro h3
  have h3q := (Go.Am.beq_neg h3)
  have e4 := e0.trans (Go.Am.bif_f h3)
  refine AW.kp [0] [] ⟨[(0, sR4 e)], []⟩ ?_
  refine AW.skip (AW.seq (AW.r1 hC [0, 3] [] ⟨[(0, sR4 e), (3, sI 0)], []⟩ ?_))
  refine AW.seq (AW.seq (AW.r1 hC [0, 3, 19, 20] [] ⟨[(0, sR4 e), (3, sI 0), (19, sI ((List.length (Xpr.Kids e) : Nat) : Int)), (20, sI 0)], []⟩ ?_))
  refine AW.cutQ (α := Int) (fun x => ⟨[(3, sI x)], []⟩) (fun x => (True) ∧ (columns_l0 (columns_r fuel) e ((List.length (Xpr.Kids e)) - 0 + 1) 0 0) = x) ?_ ?_
  ·
   skip
   refine AW.block (AW.loop (α := Int × Nat) (fun x => ⟨[(0, sR4 e), (3, sI x.1), (19, sI ((List.length (Xpr.Kids e) : Nat) : Int)), (20, sI ((x.2 : Nat) : Int))], []⟩) (fun x => (True) ∧ ∃ k, (List.length (Xpr.Kids e)) - x.2 < k ∧ (columns_l0 (columns_r fuel) e ((List.length (Xpr.Kids e)) - 0 + 1) 0 0) = columns_l0 (columns_r fuel) e k x.1 x.2) (fun x => (List.length (Xpr.Kids e)) - x.2) (0, 0) (by kernel_rfl) ⟨?_, _, Nat.lt_succ_self _, rfl⟩ ?_)
   ·
    show True
    exact trivial
   ·
    intro x hR
    obtain ⟨set_1, v20⟩ := x
    obtain ⟨hI0, k23, hk21, e22⟩ := hR
    replace hI0 : True := hI0
    replace hk21 : (List.length (Xpr.Kids e)) - v20 < k23 := hk21
    obtain ⟨k23q, rfl⟩ : ∃ k, k23 = k + 1 := ⟨k23 - 1, by omega⟩
    refine AW.seq (AW.r1 hC [0, 3, 19, 20, 21] [] ⟨[(0, sR4 e), (3, sI set_1), (19, sI ((List.length (Xpr.Kids e) : Nat) : Int)), (20, sI ((v20 : Nat) : Int)), (21, sB (decide (((v20 : Nat) : Int) < ((List.length (Xpr.Kids e) : Nat) : Int))))], []⟩ ?_)
    refine AW.seq (AW.cd (decide (((v20 : Nat) : Int) < ((List.length (Xpr.Kids e) : Nat) : Int))) ?_ ?_)
    ·
     intro h24
     have h24q := (of_decide_eq_true h24)
     have e25 := e22.trans (Go.Am.bif_t h24)
     refine AW.kp [0, 3, 19, 20] [] ⟨[(0, sR4 e), (3, sI set_1), (19, sI ((List.length (Xpr.Kids e) : Nat) : Int)), (20, sI ((v20 : Nat) : Int))], []⟩ ?_
     refine AW.skip (AW.seq (AW.block (AW.seq (AW.r1 hC [0, 3, 4, 19, 20] [] ⟨[(0, sR4 e), (3, sI set_1), (4, sI ((v20 : Nat) : Int)), (19, sI ((List.length (Xpr.Kids e) : Nat) : Int)), (20, sI ((v20 : Nat) : Int))], []⟩ ?_))))
     refine AW.r0 hC [0, 3, 19, 20] [] ⟨[(0, sR4 e), (3, sI (bits .or .i64 set_1 ((columns_r fuel) (List.getD (Xpr.Kids e) v20 Xpr.zero)))), (19, sI ((List.length (Xpr.Kids e) : Nat) : Int)), (20, sI ((v20 : Nat) : Int))], []⟩ [IX ((v20 : Nat) : Int) ((List.length (Xpr.Kids e) : Nat) : Int), ((VC (List.getD (Xpr.Kids e) v20 Xpr.zero)) ∧ SizeOf.sizeOf (List.getD (Xpr.Kids e) v20 Xpr.zero) < fuel)] ?_ ?_
     ·
      refine ⟨?_, ?_, trivial⟩
      ·
       refine IX.of ?_
       omega
      ·
       exact ⟨hpre.1.kid (by omega), Nat.lt_of_lt_of_le (kid_lt (by omega)) (Nat.le_of_lt_succ hpre.2)⟩
     refine AW.r0 hC [0, 3, 19, 20] [] ⟨[(0, sR4 e), (3, sI (bits .or .i64 set_1 ((columns_r fuel) (List.getD (Xpr.Kids e) v20 Xpr.zero)))), (19, sI ((List.length (Xpr.Kids e) : Nat) : Int)), (20, sI ((v20 + 1 : Nat) : Int))], []⟩ [R64 ((v20 + 1 : Nat) : Int)] ?_ ?_
     ·
      refine ⟨?_, trivial⟩
      ·
       refine R64.of ?_
       omega
     refine AW.back (x := (set_1, v20)) ((bits .or .i64 set_1 ((columns_r fuel) (List.getD (Xpr.Kids e) v20 Xpr.zero))), v20 + 1) (by kernel_rfl) ⟨?_, k23q, ?_, e25⟩ ?_
     ·
      show True
      assumption
     ·
      show (List.length (Xpr.Kids e)) - (v20 + 1) < k23q
      omega
     ·
      show (List.length (Xpr.Kids e)) - (v20 + 1) < (List.length (Xpr.Kids e)) - v20
      omega
    ·
     intro h26
     have h26q := (of_decide_eq_false h26)
     have e27 := e22.trans (Go.Am.bif_f h26)
     refine AW.kp [3] [] ⟨[(3, sI set_1)], []⟩ ?_
     refine AW.exit ?_
     refine AW.meet set_1 (by kernel_rfl) ⟨?_, e27⟩
     show True
     assumption
  ·
   intro set_1 hR
   obtain ⟨hJ0, e28⟩ := hR
   replace hJ0 : True := hJ0
   have e29 := e4.trans (Go.Am.then_eq e28)
   refine AW.seq (AW.r1 hC [2] [] ⟨[(2, sI set_1)], []⟩ ?_)
   exact AW.ret (AW.rI set_1 e29)

theorem columns_fu : AllTV (columns_sp.ps.map PK.ty) (fun tvs => columns_sp.pre tvs → ∃ k, (columns_spn k).pre tvs ∧ (columns_spn k).fn tvs = columns_sp.fn tvs ∧ (columns_spn k).bx tvs = columns_sp.bx tvs) :=
 (fun (e : Xpr) h => ⟨SizeOf.sizeOf e + 1, (show (VC e) ∧ SizeOf.sizeOf e < SizeOf.sizeOf e + 1 from ⟨h, Nat.lt_succ_self _⟩), (show (columns_spn (SizeOf.sizeOf e + 1)).fn [⟨(.named 1), (e : Xpr)⟩] = ([⟨(.int .i64), (columns_r (SizeOf.sizeOf e + 1) e)⟩] : List TV) from by kernel_rfl).trans (show ([⟨(.int .i64), (columns_r (SizeOf.sizeOf e + 1) e)⟩] : List TV) = columns_sp.fn [⟨(.named 1), (e : Xpr)⟩] from by kernel_rfl), by kernel_rfl⟩)

theorem columns_ok : FnOK Try.prog 25 columns_sp := FnOK.of_fuel columns_okn (fun _ => rfl) (fun _ => rfl) (AllTV.get columns_fu)

def ColumnsOf_l0 (e : Xpr) : Nat → Nat → (List Int) → (List Int)
 | 0, v10, list => list
 | k + 1, v10, list => (bif (decide (((v10 : Nat) : Int) < 6)) then (bif ((bits .and .i64 (columns (Xpr.mk (Xpr.Kind e) (Xpr.Col e) (Xpr.V e) (Xpr.Kids e))) ((1 : Int) * 2 ^ v10)) != 0) then (ColumnsOf_l0 e k (v10 + 1) (list ++ ([((v10 : Nat) : Int)] : List Int))) else (ColumnsOf_l0 e k (v10 + 1) list)) else list)

def ColumnsOf (e : Xpr) : (List Int) := (bif (!(iValidExpr (Xpr.mk (Xpr.Kind e) (Xpr.Col e) (Xpr.V e) (Xpr.Kids e)) 6)) then ([] : List Int) else (Go.Am.andThen (ColumnsOf_l0 e (6 - 0 + 1) 0 ([] : List Int)) (fun z => (fun (list : List Int) => list) z)))

def ColumnsOf_sp : FnSpec := mkSpec [.val (.named 1)] [.own (.int .i64)] (fun (e : Xpr) => True) (fun (e : Xpr) => [⟨(.slice (.int .i64)), (ColumnsOf e)⟩])

theorem ColumnsOf_ok : FnOK Try.prog 10 ColumnsOf_sp := by
 have hC : CtxOK Try.prog (mkCtx tyL [(9, iValidExpr_sp), (25, columns_sp)]) := CtxOK.cons iValidExpr_ok (CtxOK.cons columns_ok (CtxOK.nil tyOK))
 refine FnOK.of_body Try.func10 (by kernel_rfl) rfl (C := (mkCtx tyL [(9, iValidExpr_sp), (25, columns_sp)])) hC.ty (by kernel_rfl) ?_
 intro (e : Xpr) hwf hpre E
 have hpre : True := hpre
 have hw_e : Wf ⟨(.named 1), (e : Xpr)⟩ := hwf _ (List.Mem.head _)
 obtain ⟨hr_e_Kind, hr_e_Col, hl_e_Kids⟩ := Xpr.wfl hw_e
 have e0 : ColumnsOf e = ColumnsOf e := rfl
 refine AW.seq (AW.r1 hC [1] [4] ⟨[(1, .ref 4 1 0)], [(4, .box 1 [sI (Xpr.Kind e), sI (Xpr.Col e), sB (Val.Null (Xpr.V e)), sI (Val.N (Xpr.V e)), sD9 (Xpr.Kids e)])]⟩ ?_)
 refine AW.seq (AW.seq (AW.r0 hC [1, 8] [4] ⟨[(1, .ref 4 1 0), (8, sB (!(iValidExpr (Xpr.mk (Xpr.Kind e) (Xpr.Col e) (Xpr.V e) (Xpr.Kids e)) 6)))], [(4, .box 1 [sI (Xpr.Kind e), sI (Xpr.Col e), sB (Val.Null (Xpr.V e)), sI (Val.N (Xpr.V e)), sD9 (Xpr.Kids e)])]⟩ [(True)] ?_ ?_))
 ·
  refine ⟨?_, trivial⟩
  ·
   trivial
 refine AW.cd (!(iValidExpr (Xpr.mk (Xpr.Kind e) (Xpr.Col e) (Xpr.V e) (Xpr.Kids e)) 6)) ?_ ?_
 ·
  intro h1
  have h1q := (Go.Am.not_pos h1)
  have e2 := e0.trans (Go.Am.bif_t h1)
  refine AW.seq (AW.r1 hC [2] [] ⟨[(2, .nilsl)], []⟩ ?_)
  exact AW.ret (AW.retE (β := (List Int)) (fun v => [⟨(.slice (.int .i64)), v⟩]) (fun v => []) (v := ([] : List Int)) e2 (by kernel_rfl) rfl rfl)
 ·
  intro h3
  have h3q := (Go.Am.not_neg h3)
  have e4 := e0.trans (Go.Am.bif_f h3)
  refine AW.kp [1] [4] ⟨[(1, .ref 4 1 0)], [(4, .box 1 [sI (Xpr.Kind e), sI (Xpr.Col e), sB (Val.Null (Xpr.V e)), sI (Val.N (Xpr.V e)), sD9 (Xpr.Kids e)])]⟩ ?_
  refine AW.skip (AW.seq (AW.r0 hC [3] [] ⟨[(3, sI (columns (Xpr.mk (Xpr.Kind e) (Xpr.Col e) (Xpr.V e) (Xpr.Kids e))))], []⟩ [(VC (Xpr.mk (Xpr.Kind e) (Xpr.Col e) (Xpr.V e) (Xpr.Kids e)))] ?_ ?_))
  ·
   refine ⟨?_, trivial⟩
   ·
    rw [Xpr.eta]
    exact ⟨6, 8, by decide, (iValidExpr_iff.1 (Xpr.eta e ▸ h3q)).2⟩
  refine AW.seq (AW.r1 hC [3, 4] [] ⟨[(3, sI (columns (Xpr.mk (Xpr.Kind e) (Xpr.Col e) (Xpr.V e) (Xpr.Kids e)))), (4, .nilsl)], []⟩ ?_)
  refine AW.seq (AW.seq (AW.r1 hC [3, 4, 10] [] ⟨[(3, sI (columns (Xpr.mk (Xpr.Kind e) (Xpr.Col e) (Xpr.V e) (Xpr.Kids e)))), (4, .nilsl), (10, sI 0)], []⟩ ?_))
  refine AW.adopt 4 84 (.int .i64) (by kernel_rfl) (by kernel_rfl) ?_
  refine AW.kp [3, 4, 10] [84] ⟨[(3, sI (columns (Xpr.mk (Xpr.Kind e) (Xpr.Col e) (Xpr.V e) (Xpr.Kids e)))), (4, .arr 84 1), (10, sI 0)], [(84, .arr 1 (.int .i64) (([] : List Int) : List Int))]⟩ ?_
  refine AW.cutQ (α := (List Int)) (fun x => ⟨[(4, .arr 84 1)], [(84, .arr 1 (.int .i64) (x : List Int))]⟩) (fun x => (True) ∧ (ColumnsOf_l0 e (6 - 0 + 1) 0 ([] : List Int)) = x) ?_ ?_
  ·
   skip
   refine AW.block (AW.loop (α := Nat × (List Int)) (fun x => ⟨[(3, sI (columns (Xpr.mk (Xpr.Kind e) (Xpr.Col e) (Xpr.V e) (Xpr.Kids e)))), (4, .arr 84 1), (10, sI ((x.1 : Nat) : Int))], [(84, .arr 1 (.int .i64) (x.2 : List Int))]⟩) (fun x => (List.length x.2 ≤ x.1 ∧ x.1 ≤ 6) ∧ ∃ k, 6 - x.1 < k ∧ (ColumnsOf_l0 e (6 - 0 + 1) 0 ([] : List Int)) = ColumnsOf_l0 e k x.1 x.2) (fun x => 6 - x.1) (0, ([] : List Int)) (by kernel_rfl) ⟨?_, _, Nat.lt_succ_self _, rfl⟩ ?_)
   ·
    show List.length ([] : List Int) ≤ 0 ∧ 0 ≤ 6
    exact ⟨Nat.le_refl _, by decide⟩
   ·
    intro x hR
    obtain ⟨v10, list⟩ := x
    obtain ⟨hI0, k39, hk37, e38⟩ := hR
    replace hI0 : List.length list ≤ v10 ∧ v10 ≤ 6 := hI0
    replace hk37 : 6 - v10 < k39 := hk37
    obtain ⟨k39q, rfl⟩ : ∃ k, k39 = k + 1 := ⟨k39 - 1, by omega⟩
    refine AW.seq (AW.r1 hC [3, 4, 10, 11] [84] ⟨[(3, sI (columns (Xpr.mk (Xpr.Kind e) (Xpr.Col e) (Xpr.V e) (Xpr.Kids e)))), (4, .arr 84 1), (10, sI ((v10 : Nat) : Int)), (11, sB (decide (((v10 : Nat) : Int) < 6)))], [(84, .arr 1 (.int .i64) (list : List Int))]⟩ ?_)
    refine AW.seq (AW.cd (decide (((v10 : Nat) : Int) < 6)) ?_ ?_)
    ·
     intro h40
     have h40q := (of_decide_eq_true h40)
     have e41 := e38.trans (Go.Am.bif_t h40)
     refine AW.kp [3, 4, 10] [84] ⟨[(3, sI (columns (Xpr.mk (Xpr.Kind e) (Xpr.Col e) (Xpr.V e) (Xpr.Kids e)))), (4, .arr 84 1), (10, sI ((v10 : Nat) : Int))], [(84, .arr 1 (.int .i64) (list : List Int))]⟩ ?_
     refine AW.skip (AW.seq (AW.block (AW.seq (AW.r1 hC [3, 4, 5, 10] [84] ⟨[(3, sI (columns (Xpr.mk (Xpr.Kind e) (Xpr.Col e) (Xpr.V e) (Xpr.Kids e)))), (4, .arr 84 1), (5, sI ((v10 : Nat) : Int)), (10, sI ((v10 : Nat) : Int))], [(84, .arr 1 (.int .i64) (list : List Int))]⟩ ?_))))
     refine AW.seq (AW.r0 hC [3, 4, 5, 10, 17] [84] ⟨[(3, sI (columns (Xpr.mk (Xpr.Kind e) (Xpr.Col e) (Xpr.V e) (Xpr.Kids e)))), (4, .arr 84 1), (5, sI ((v10 : Nat) : Int)), (10, sI ((v10 : Nat) : Int)), (17, sB ((bits .and .i64 (columns (Xpr.mk (Xpr.Kind e) (Xpr.Col e) (Xpr.V e) (Xpr.Kids e))) ((1 : Int) * 2 ^ v10)) != 0))], [(84, .arr 1 (.int .i64) (list : List Int))]⟩ [(0 ≤ ((v10 : Nat) : Int) ∧ ((v10 : Nat) : Int) ≤ 64), R64 ((1 : Int) * 2 ^ v10)] ?_ ?_)
     ·
      refine ⟨?_, ?_, trivial⟩
      ·
       omega
      ·
       refine R64.of ?_
       have := pow_lt6 (c := ((v10 : Nat) : Int)) (by omega)
       simp only [Int.toNat_natCast] at this
       omega
     refine AW.cd ((bits .and .i64 (columns (Xpr.mk (Xpr.Kind e) (Xpr.Col e) (Xpr.V e) (Xpr.Kids e))) ((1 : Int) * 2 ^ v10)) != 0) ?_ ?_
     ·
      intro h42
      have h42q := (Go.Am.bne_pos h42)
      have e43 := e41.trans (Go.Am.bif_t h42)
      refine AW.r0 hC [3, 4, 10] [84] ⟨[(3, sI (columns (Xpr.mk (Xpr.Kind e) (Xpr.Col e) (Xpr.V e) (Xpr.Kids e)))), (4, .arr 84 1), (10, sI ((v10 : Nat) : Int))], [(84, .arr 1 (.int .i64) ((list ++ ([((v10 : Nat) : Int)] : List Int)) : List Int))]⟩ [(((List.length list : Nat) : Int) + ((List.length ([((v10 : Nat) : Int)] : List Int) : Nat) : Int) ≤ 4294967296)] ?_ ?_
      ·
       refine ⟨?_, trivial⟩
       ·
        simp only [List.length_append, List.length_cons, List.length_nil]; omega
      refine AW.r0 hC [3, 4, 10] [84] ⟨[(3, sI (columns (Xpr.mk (Xpr.Kind e) (Xpr.Col e) (Xpr.V e) (Xpr.Kids e)))), (4, .arr 84 1), (10, sI ((v10 + 1 : Nat) : Int))], [(84, .arr 1 (.int .i64) ((list ++ ([((v10 : Nat) : Int)] : List Int)) : List Int))]⟩ [R64 ((v10 + 1 : Nat) : Int)] ?_ ?_
      ·
       refine ⟨?_, trivial⟩
       ·
        refine R64.of ?_
        omega
      refine AW.back (x := (v10, list)) (v10 + 1, (list ++ ([((v10 : Nat) : Int)] : List Int))) (by kernel_rfl) ⟨?_, k39q, ?_, e43⟩ ?_
      ·
       show List.length (list ++ ([((v10 : Nat) : Int)] : List Int)) ≤ (v10 + 1) ∧ (v10 + 1) ≤ 6
       simp only [List.length_append, List.length_cons, List.length_nil]; omega
      ·
       show 6 - (v10 + 1) < k39q
       omega
      ·
       show 6 - (v10 + 1) < 6 - v10
       omega
     ·
      intro h44
      have h44q := (Go.Am.bne_neg h44)
      have e45 := e41.trans (Go.Am.bif_f h44)
      refine AW.kp [3, 4, 10] [84] ⟨[(3, sI (columns (Xpr.mk (Xpr.Kind e) (Xpr.Col e) (Xpr.V e) (Xpr.Kids e)))), (4, .arr 84 1), (10, sI ((v10 : Nat) : Int))], [(84, .arr 1 (.int .i64) (list : List Int))]⟩ ?_
      refine AW.skip (AW.r0 hC [3, 4, 10] [84] ⟨[(3, sI (columns (Xpr.mk (Xpr.Kind e) (Xpr.Col e) (Xpr.V e) (Xpr.Kids e)))), (4, .arr 84 1), (10, sI ((v10 + 1 : Nat) : Int))], [(84, .arr 1 (.int .i64) (list : List Int))]⟩ [R64 ((v10 + 1 : Nat) : Int)] ?_ ?_)
      ·
       refine ⟨?_, trivial⟩
       ·
        refine R64.of ?_
        omega
      refine AW.back (x := (v10, list)) (v10 + 1, list) (by kernel_rfl) ⟨?_, k39q, ?_, e45⟩ ?_
      ·
       show List.length list ≤ (v10 + 1) ∧ (v10 + 1) ≤ 6
       omega
      ·
       show 6 - (v10 + 1) < k39q
       omega
      ·
       show 6 - (v10 + 1) < 6 - v10
       omega
    ·
     intro h46
     have h46q := (of_decide_eq_false h46)
     have e47 := e38.trans (Go.Am.bif_f h46)
     refine AW.kp [4] [84] ⟨[(4, .arr 84 1)], [(84, .arr 1 (.int .i64) (list : List Int))]⟩ ?_
     refine AW.exit ?_
     refine AW.meet list (by kernel_rfl) ⟨?_, e47⟩
     show True
     trivial
  ·
   intro list hR
   obtain ⟨hJ0, e48⟩ := hR
   replace hJ0 : True := hJ0
   have e49 := e4.trans (Go.Am.then_eq e48)
   refine AW.seq (AW.r1 hC [2] [84] ⟨[(2, .arr 84 1)], [(84, .arr 1 (.int .i64) (list : List Int))]⟩ ?_)
   exact AW.ret (AW.retE (β := (List Int)) (fun v => [⟨(.slice (.int .i64)), v⟩]) (fun v => []) (v := list) e49 (by kernel_rfl) rfl rfl)

def size_l0 (self : Xpr → Int) (e : Xpr) : Nat → Int → Nat → Int
 | 0, n1, v10 => n1
 | k + 1, n1, v10 => (bif (decide (((v10 : Nat) : Int) < ((List.length (Xpr.Kids e) : Nat) : Int))) then (size_l0 self e k (n1 + (self (List.getD (Xpr.Kids e) v10 Xpr.zero))) (v10 + 1)) else n1)

def size_r : Nat → Xpr → Int
 | 0, e => 0
 | fuel + 1, e => (Go.Am.andThen (size_l0 (size_r fuel) e ((List.length (Xpr.Kids e)) - 0 + 1) 1 0) (fun z => (fun (n1 : Int) => n1) z))

def size (e : Xpr) : Int := size_r (SizeOf.sizeOf e + 1) e

def size_spn (fuel : Nat) : FnSpec := mkSpec [.rd (.named 1)] [.val (.int .i64)] (fun (e : Xpr) => (∃ w, VL w e) ∧ SizeOf.sizeOf e < fuel) (fun (e : Xpr) => [⟨(.int .i64), (size_r fuel e)⟩])

def size_sp : FnSpec := mkSpec [.rd (.named 1)] [.val (.int .i64)] (fun (e : Xpr) => ∃ w, VL w e) (fun (e : Xpr) => [⟨(.int .i64), (size e)⟩])

theorem size_l0_b {self : Xpr → Int} {e : Xpr} {B : Int} (hs : ∀ i, i < e.Kids.length → 0 ≤ self (e.Kids.getD i Xpr.zero) ∧ self (e.Kids.getD i Xpr.zero) ≤ B) : ∀ (k : Nat) (n : Int) (v : Nat), e.Kids.length - v < k → v ≤ e.Kids.length → n ≤ size_l0 self e k n v ∧ size_l0 self e k n v ≤ n + B * ((e.Kids.length - v : Nat) : Int) := by
 intro k
 induction k with
 | zero => intro n v h; omega
 | succ k ih =>
  intro n v h hv
  unfold size_l0
  by_cases hlt : v < e.Kids.length
  ·
   rw [decide_eq_true (by omega : ((v : Nat) : Int) < ((List.length (Xpr.Kids e) : Nat) : Int)), cond_true]
   have h1 := hs v hlt
   have h2 := ih (n + self (e.Kids.getD v Xpr.zero)) (v + 1) (by omega) hlt
   have e1 : B * ((e.Kids.length - v : Nat) : Int) = B * ((e.Kids.length - (v + 1) : Nat) : Int) + B := by
    rw [show e.Kids.length - v = (e.Kids.length - (v + 1)) + 1 by omega, Int.natCast_add, Int.mul_add]
    simp
   omega
  ·
   rw [decide_eq_false (by omega), cond_false, show e.Kids.length - v = 0 by omega]
   simp

theorem size_b : ∀ (l f : Nat) {w : Int} {e : Xpr}, VE w l e → 0 ≤ size_r f e ∧ size_r f e ≤ 2 ^ (l + 1) - 1 := by
 intro l
 induction l with
 | zero =>
  intro f w e h
  cases f with
  | zero => exact ⟨Int.le_refl _, by show (0 : Int) ≤ _; decide⟩
  | succ f =>
   unfold size_r Go.Am.andThen
   have := size_l0_b (self := size_r f) (e := e) (B := 0) (fun i hi => by have := h.2; omega) (e.Kids.length - 0 + 1) 1 0 (by omega) (Nat.zero_le _)
   simp only at this ⊢
   have e2 : (2 : Int) ^ (0 + 1) = 2 := by decide
   omega
 | succ l ih =>
  intro f w e h
  have hk := h.kids2
  have hp : (2 : Int) ^ (l + 1 + 1) = 2 ^ (l + 1) * 2 := Int.pow_succ _ _
  have h1 : (1 : Int) ≤ 2 ^ (l + 1) := by
   have : (0 : Int) < 2 ^ (l + 1) := Int.pow_pos (by decide)
   omega
  cases f with
  | zero => exact ⟨Int.le_refl _, by show (0 : Int) ≤ _; omega⟩
  | succ f =>
   unfold size_r Go.Am.andThen
   have := size_l0_b (self := size_r f) (e := e) (B := 2 ^ (l + 1) - 1) (fun i hi => ih f (h.2 i hi)) (e.Kids.length - 0 + 1) 1 0 (by omega) (Nat.zero_le _)
   simp only at this ⊢
   generalize (2 : Int) ^ (l + 1) = B at *
   have h3 : (B - 1) * ((e.Kids.length - 0 : Nat) : Int) ≤ (B - 1) * 2 := Int.mul_le_mul_of_nonneg_left (by omega) (by omega)
   omega

theorem size_v {f : Nat} {w : Int} {e : Xpr} (h : VL w e) : 0 ≤ size_r f e ∧ size_r f e ≤ 511 := by
 obtain ⟨l, hl, h⟩ := h
 have h1 := size_b l f h
 have : (2 : Int) ^ (l + 1) ≤ 512 := by
  have : l = 0 ∨ l = 1 ∨ l = 2 ∨ l = 3 ∨ l = 4 ∨ l = 5 ∨ l = 6 ∨ l = 7 ∨ l = 8 := by omega
  rcases this with rfl | rfl | rfl | rfl | rfl | rfl | rfl | rfl | rfl <;> decide
 omega

theorem size_okn (fuel : Nat) : FnOK Try.prog 28 (size_spn fuel) := by
 induction fuel with
 | zero => exact FnOK.never Try.func28 (by kernel_rfl) rfl (fun _ h => absurd h.2 (Nat.not_lt_zero _))
 | succ fuel ih => ?_
 have hC : CtxOK Try.prog (mkCtx tyL [(28, (size_spn fuel))]) := CtxOK.cons ih (CtxOK.nil tyOK)
 refine FnOK.of_body Try.func28 (by kernel_rfl) rfl (C := (mkCtx tyL [(28, (size_spn fuel))])) hC.ty (by kernel_rfl) ?_
 intro (e : Xpr) hwf hpre E
 have hpre : (∃ w, VL w e) ∧ SizeOf.sizeOf e < fuel + 1 := hpre
 have hw_e : Wf ⟨(.named 1), (e : Xpr)⟩ := hwf _ (List.Mem.head _)
 obtain ⟨hr_e_Kind, hr_e_Col, hl_e_Kids⟩ := Xpr.wfl hw_e
 obtain ⟨w0, hvl⟩ := hpre.1
 have hk2 := hvl.kids2
 have e0 : size_r (fuel + 1) e = size_r (fuel + 1) e := rfl
 refine AW.seq (AW.r1 hC [0] [] ⟨[(0, sR4 e)], []⟩ ?_)
 refine AW.seq (AW.r1 hC [0, 3] [] ⟨[(0, sR4 e), (3, sI 1)], []⟩ ?_)
 refine AW.seq (AW.seq (AW.r1 hC [0, 3, 9, 10] [] ⟨[(0, sR4 e), (3, sI 1), (9, sI ((List.length (Xpr.Kids e) : Nat) : Int)), (10, sI 0)], []⟩ ?_))
 refine AW.cutQ (α := Int) (fun x => ⟨[(3, sI x)], []⟩) (fun x => (True) ∧ (size_l0 (size_r fuel) e ((List.length (Xpr.Kids e)) - 0 + 1) 1 0) = x) ?_ ?_
 ·
  skip
  refine AW.block (AW.loop (α := Int × Nat) (fun x => ⟨[(0, sR4 e), (3, sI x.1), (9, sI ((List.length (Xpr.Kids e) : Nat) : Int)), (10, sI ((x.2 : Nat) : Int))], []⟩) (fun x => ((1 ≤ x.1 ∧ x.1 ≤ 1 + 511 * (x.2 : Int)) ∧ x.2 ≤ List.length (Xpr.Kids e)) ∧ ∃ k, (List.length (Xpr.Kids e)) - x.2 < k ∧ (size_l0 (size_r fuel) e ((List.length (Xpr.Kids e)) - 0 + 1) 1 0) = size_l0 (size_r fuel) e k x.1 x.2) (fun x => (List.length (Xpr.Kids e)) - x.2) (1, 0) (by kernel_rfl) ⟨?_, _, Nat.lt_succ_self _, rfl⟩ ?_)
  ·
   show (1 ≤ 1 ∧ 1 ≤ 1 + 511 * (0 : Int)) ∧ 0 ≤ List.length (Xpr.Kids e)
   exact ⟨by omega, Nat.zero_le _⟩
  ·
   intro x hR
   obtain ⟨n1, v10⟩ := x
   obtain ⟨hI0, k19, hk17, e18⟩ := hR
   replace hI0 : (1 ≤ n1 ∧ n1 ≤ 1 + 511 * (v10 : Int)) ∧ v10 ≤ List.length (Xpr.Kids e) := hI0
   replace hk17 : (List.length (Xpr.Kids e)) - v10 < k19 := hk17
   obtain ⟨k19q, rfl⟩ : ∃ k, k19 = k + 1 := ⟨k19 - 1, by omega⟩
   have hsv := fun h => size_v (f := fuel) (hvl.kid (i := v10) h)
   refine AW.seq (AW.r1 hC [0, 3, 9, 10, 11] [] ⟨[(0, sR4 e), (3, sI n1), (9, sI ((List.length (Xpr.Kids e) : Nat) : Int)), (10, sI ((v10 : Nat) : Int)), (11, sB (decide (((v10 : Nat) : Int) < ((List.length (Xpr.Kids e) : Nat) : Int))))], []⟩ ?_)
   refine AW.seq (AW.cd (decide (((v10 : Nat) : Int) < ((List.length (Xpr.Kids e) : Nat) : Int))) ?_ ?_)
   ·
    intro h20
    have h20q := (of_decide_eq_true h20)
    have e21 := e18.trans (Go.Am.bif_t h20)
    refine AW.kp [0, 3, 9, 10] [] ⟨[(0, sR4 e), (3, sI n1), (9, sI ((List.length (Xpr.Kids e) : Nat) : Int)), (10, sI ((v10 : Nat) : Int))], []⟩ ?_
    refine AW.skip (AW.seq (AW.block (AW.seq (AW.r1 hC [0, 3, 4, 9, 10] [] ⟨[(0, sR4 e), (3, sI n1), (4, sI ((v10 : Nat) : Int)), (9, sI ((List.length (Xpr.Kids e) : Nat) : Int)), (10, sI ((v10 : Nat) : Int))], []⟩ ?_))))
    refine AW.r0 hC [0, 3, 9, 10] [] ⟨[(0, sR4 e), (3, sI (n1 + ((size_r fuel) (List.getD (Xpr.Kids e) v10 Xpr.zero)))), (9, sI ((List.length (Xpr.Kids e) : Nat) : Int)), (10, sI ((v10 : Nat) : Int))], []⟩ [IX ((v10 : Nat) : Int) ((List.length (Xpr.Kids e) : Nat) : Int), ((∃ w, VL w (List.getD (Xpr.Kids e) v10 Xpr.zero)) ∧ SizeOf.sizeOf (List.getD (Xpr.Kids e) v10 Xpr.zero) < fuel), R64 (n1 + ((size_r fuel) (List.getD (Xpr.Kids e) v10 Xpr.zero)))] ?_ ?_
    ·
     refine ⟨?_, ?_, ?_, trivial⟩
     ·
      refine IX.of ?_
      omega
     ·
      exact ⟨⟨w0, hvl.kid (by omega)⟩, Nat.lt_of_lt_of_le (kid_lt (by omega)) (Nat.le_of_lt_succ hpre.2)⟩
     ·
      refine R64.of ?_
      omega
    refine AW.r0 hC [0, 3, 9, 10] [] ⟨[(0, sR4 e), (3, sI (n1 + ((size_r fuel) (List.getD (Xpr.Kids e) v10 Xpr.zero)))), (9, sI ((List.length (Xpr.Kids e) : Nat) : Int)), (10, sI ((v10 + 1 : Nat) : Int))], []⟩ [R64 ((v10 + 1 : Nat) : Int)] ?_ ?_
    ·
     refine ⟨?_, trivial⟩
     ·
      refine R64.of ?_
      omega
    refine AW.back (x := (n1, v10)) ((n1 + ((size_r fuel) (List.getD (Xpr.Kids e) v10 Xpr.zero))), v10 + 1) (by kernel_rfl) ⟨?_, k19q, ?_, e21⟩ ?_
    ·
     show (1 ≤ (n1 + ((size_r fuel) (List.getD (Xpr.Kids e) v10 Xpr.zero))) ∧ (n1 + ((size_r fuel) (List.getD (Xpr.Kids e) v10 Xpr.zero))) ≤ 1 + 511 * ((v10 + 1) : Int)) ∧ (v10 + 1) ≤ List.length (Xpr.Kids e)
     have := hsv (by omega)
     omega
    ·
     show (List.length (Xpr.Kids e)) - (v10 + 1) < k19q
     omega
    ·
     show (List.length (Xpr.Kids e)) - (v10 + 1) < (List.length (Xpr.Kids e)) - v10
     omega
   ·
    intro h22
    have h22q := (of_decide_eq_false h22)
    have e23 := e18.trans (Go.Am.bif_f h22)
    refine AW.kp [3] [] ⟨[(3, sI n1)], []⟩ ?_
    refine AW.exit ?_
    refine AW.meet n1 (by kernel_rfl) ⟨?_, e23⟩
    show True
    trivial
 ·
  intro n1 hR
  obtain ⟨hJ0, e24⟩ := hR
  replace hJ0 : True := hJ0
  have e25 := e0.trans (Go.Am.then_eq e24)
  refine AW.seq (AW.r1 hC [2] [] ⟨[(2, sI n1)], []⟩ ?_)
  exact AW.ret (AW.rI n1 e25)

theorem size_fu : AllTV (size_sp.ps.map PK.ty) (fun tvs => size_sp.pre tvs → ∃ k, (size_spn k).pre tvs ∧ (size_spn k).fn tvs = size_sp.fn tvs ∧ (size_spn k).bx tvs = size_sp.bx tvs) :=
 (fun (e : Xpr) h => ⟨SizeOf.sizeOf e + 1, (show (∃ w, VL w e) ∧ SizeOf.sizeOf e < SizeOf.sizeOf e + 1 from ⟨h, Nat.lt_succ_self _⟩), (show (size_spn (SizeOf.sizeOf e + 1)).fn [⟨(.named 1), (e : Xpr)⟩] = ([⟨(.int .i64), (size_r (SizeOf.sizeOf e + 1) e)⟩] : List TV) from by kernel_rfl).trans (show ([⟨(.int .i64), (size_r (SizeOf.sizeOf e + 1) e)⟩] : List TV) = size_sp.fn [⟨(.named 1), (e : Xpr)⟩] from by kernel_rfl), by kernel_rfl⟩)

theorem size_ok : FnOK Try.prog 28 size_sp := FnOK.of_fuel size_okn (fun _ => rfl) (fun _ => rfl) (AllTV.get size_fu)

def ExprSize (e : Xpr) : Int := (bif (!(iValidExpr (Xpr.mk (Xpr.Kind e) (Xpr.Col e) (Xpr.V e) (Xpr.Kids e)) 6)) then 0 else (size (Xpr.mk (Xpr.Kind e) (Xpr.Col e) (Xpr.V e) (Xpr.Kids e))))

def ExprSize_sp : FnSpec := mkSpec [.val (.named 1)] [.val (.int .i64)] (fun (e : Xpr) => True) (fun (e : Xpr) => [⟨(.int .i64), (ExprSize e)⟩])

theorem ExprSize_ok : FnOK Try.prog 12 ExprSize_sp := by
 have hC : CtxOK Try.prog (mkCtx tyL [(9, iValidExpr_sp), (28, size_sp)]) := CtxOK.cons iValidExpr_ok (CtxOK.cons size_ok (CtxOK.nil tyOK))
 refine FnOK.of_body Try.func12 (by kernel_rfl) rfl (C := (mkCtx tyL [(9, iValidExpr_sp), (28, size_sp)])) hC.ty (by kernel_rfl) ?_
 intro (e : Xpr) hwf hpre E
 have hpre : True := hpre
 have hw_e : Wf ⟨(.named 1), (e : Xpr)⟩ := hwf _ (List.Mem.head _)
 obtain ⟨hr_e_Kind, hr_e_Col, hl_e_Kids⟩ := Xpr.wfl hw_e
 have e0 : ExprSize e = ExprSize e := rfl
 refine AW.seq (AW.r1 hC [1] [4] ⟨[(1, .ref 4 1 0)], [(4, .box 1 [sI (Xpr.Kind e), sI (Xpr.Col e), sB (Val.Null (Xpr.V e)), sI (Val.N (Xpr.V e)), sD9 (Xpr.Kids e)])]⟩ ?_)
 refine AW.seq (AW.seq (AW.r0 hC [1, 5] [4] ⟨[(1, .ref 4 1 0), (5, sB (!(iValidExpr (Xpr.mk (Xpr.Kind e) (Xpr.Col e) (Xpr.V e) (Xpr.Kids e)) 6)))], [(4, .box 1 [sI (Xpr.Kind e), sI (Xpr.Col e), sB (Val.Null (Xpr.V e)), sI (Val.N (Xpr.V e)), sD9 (Xpr.Kids e)])]⟩ [(True)] ?_ ?_))
 ·
  refine ⟨?_, trivial⟩
  ·
   trivial
 refine AW.cd (!(iValidExpr (Xpr.mk (Xpr.Kind e) (Xpr.Col e) (Xpr.V e) (Xpr.Kids e)) 6)) ?_ ?_
 ·
  intro h1
  have h1q := (Go.Am.not_pos h1)
  have e2 := e0.trans (Go.Am.bif_t h1)
  refine AW.seq (AW.r1 hC [2] [] ⟨[(2, sI 0)], []⟩ ?_)
  exact AW.ret (AW.rI 0 e2)
 ·
  intro h3
  have h3q := (Go.Am.not_neg h3)
  have e4 := e0.trans (Go.Am.bif_f h3)
  refine AW.kp [1] [4] ⟨[(1, .ref 4 1 0)], [(4, .box 1 [sI (Xpr.Kind e), sI (Xpr.Col e), sB (Val.Null (Xpr.V e)), sI (Val.N (Xpr.V e)), sD9 (Xpr.Kids e)])]⟩ ?_
  refine AW.skip (AW.seq (AW.r0 hC [2] [] ⟨[(2, sI (size (Xpr.mk (Xpr.Kind e) (Xpr.Col e) (Xpr.V e) (Xpr.Kids e))))], []⟩ [(∃ w, VL w (Xpr.mk (Xpr.Kind e) (Xpr.Col e) (Xpr.V e) (Xpr.Kids e)))] ?_ ?_))
  ·
   refine ⟨?_, trivial⟩
   ·
    rw [Xpr.eta]
    exact ⟨6, 8, Nat.le_refl _, (iValidExpr_iff.1 (Xpr.eta e ▸ h3q)).2⟩
  exact AW.ret (AW.rI (size (Xpr.mk (Xpr.Kind e) (Xpr.Col e) (Xpr.V e) (Xpr.Kids e))) e4)

def validRow_l0 (row : List Val) : Nat → Nat → Unit ⊕ Bool
 | 0, v11 => .inl ()
 | k + 1, v11 => (bif (decide (((v11 : Nat) : Int) < ((List.length row : Nat) : Int))) then (bif (!(valValid (List.getD row v11 Val.zero))) then (.inr false) else (validRow_l0 row k (v11 + 1))) else (.inl ()))

def validRow (row : List Val) : Bool := (bif (!(validWidth ((List.length row : Nat) : Int))) then false else (Sum.elim (fun _ => true) (fun r => r) (validRow_l0 row ((List.length row) - 0 + 1) 0)))

def validRow_sp : FnSpec := mkSpec [.val (.slice (.named 0))] [.val .bool] (fun (row : List Val) => True) (fun (row : List Val) => [⟨.bool, (validRow row)⟩])

theorem validRow_ok : FnOK Try.prog 26 validRow_sp := by
 have hC : CtxOK Try.prog (mkCtx tyL [(23, validWidth_sp), (41, valValid_sp)]) := CtxOK.cons validWidth_ok (CtxOK.cons valValid_ok (CtxOK.nil tyOK))
 refine FnOK.of_body Try.func26 (by kernel_rfl) rfl (C := (mkCtx tyL [(23, validWidth_sp), (41, valValid_sp)])) hC.ty (by kernel_rfl) ?_
 intro (row : List Val) hwf hpre E
 have hpre : True := hpre
 have hw_row : Wf ⟨(.slice (.named 0)), (row : List Val)⟩ := hwf _ (List.Mem.head _)
 have hl_row : ((List.length row : Nat) : Int) ≤ 9223372036854775807 := hw_row.len
 have e0 : validRow row = validRow row := rfl
 refine AW.seq (AW.r1 hC [0] [] ⟨[(0, sD8 row)], []⟩ ?_)
 refine AW.seq (AW.seq (AW.r0 hC [0, 8] [] ⟨[(0, sD8 row), (8, sB (!(validWidth ((List.length row : Nat) : Int))))], []⟩ [(True)] ?_ ?_))
 ·
  refine ⟨?_, trivial⟩
  ·
   trivial
 refine AW.cd (!(validWidth ((List.length row : Nat) : Int))) ?_ ?_
 ·
  intro h1
  have h1q := (Go.Am.not_pos h1)
  have e2 := e0.trans (Go.Am.bif_t h1)
  refine AW.seq (AW.r1 hC [2] [] ⟨[(2, sB false)], []⟩ ?_)
  exact AW.ret (AW.rB false e2)
 ·
  intro h3
  have h3q := (Go.Am.not_neg h3)
  have e4 := e0.trans (Go.Am.bif_f h3)
  refine AW.kp [0] [] ⟨[(0, sD8 row)], []⟩ ?_
  refine AW.skip (AW.seq (AW.seq (AW.r1 hC [9, 10, 11] [] ⟨[(9, sD8 row), (10, sI ((List.length row : Nat) : Int)), (11, sI 0)], []⟩ ?_)))
  refine AW.cutQ (α := Unit) (fun x => ⟨[], []⟩) (fun x => (True) ∧ (validRow_l0 row ((List.length row) - 0 + 1) 0) = (.inl ())) ?_ ?_
  ·
   skip
   refine AW.block (AW.loop (α := Nat) (fun x => ⟨[(9, sD8 row), (10, sI ((List.length row : Nat) : Int)), (11, sI ((x : Nat) : Int))], []⟩) (fun x => (True) ∧ ∃ k, (List.length row) - x < k ∧ (validRow_l0 row ((List.length row) - 0 + 1) 0) = validRow_l0 row k x) (fun x => (List.length row) - x) 0 (by kernel_rfl) ⟨?_, _, Nat.lt_succ_self _, rfl⟩ ?_)
   ·
    show True
    exact trivial
   ·
    intro v11 hR
    obtain ⟨hI0, k34, hk32, e33⟩ := hR
    replace hI0 : True := hI0
    replace hk32 : (List.length row) - v11 < k34 := hk32
    obtain ⟨k34q, rfl⟩ : ∃ k, k34 = k + 1 := ⟨k34 - 1, by omega⟩
    refine AW.seq (AW.r1 hC [9, 10, 11, 12] [] ⟨[(9, sD8 row), (10, sI ((List.length row : Nat) : Int)), (11, sI ((v11 : Nat) : Int)), (12, sB (decide (((v11 : Nat) : Int) < ((List.length row : Nat) : Int))))], []⟩ ?_)
    refine AW.seq (AW.cd (decide (((v11 : Nat) : Int) < ((List.length row : Nat) : Int))) ?_ ?_)
    ·
     intro h35
     have h35q := (of_decide_eq_true h35)
     have e36 := e33.trans (Go.Am.bif_t h35)
     refine AW.kp [9, 10, 11] [] ⟨[(9, sD8 row), (10, sI ((List.length row : Nat) : Int)), (11, sI ((v11 : Nat) : Int))], []⟩ ?_
     refine AW.skip (AW.seq (AW.block (AW.seq (AW.r0 hC [4, 9, 10, 11] [16] ⟨[(4, .ref 16 1 0), (9, sD8 row), (10, sI ((List.length row : Nat) : Int)), (11, sI ((v11 : Nat) : Int))], [(16, .box 1 [sB (Val.Null (List.getD row v11 Val.zero)), sI (Val.N (List.getD row v11 Val.zero))])]⟩ [IX ((v11 : Nat) : Int) ((List.length row : Nat) : Int)] ?_ ?_))))
     ·
      refine ⟨?_, trivial⟩
      ·
       refine IX.of ?_
       omega
     refine AW.seq (AW.r0 hC [9, 10, 11, 17] [] ⟨[(9, sD8 row), (10, sI ((List.length row : Nat) : Int)), (11, sI ((v11 : Nat) : Int)), (17, sB (!(valValid (List.getD row v11 Val.zero))))], []⟩ [(True)] ?_ ?_)
     ·
      refine ⟨?_, trivial⟩
      ·
       trivial
     refine AW.cd (!(valValid (List.getD row v11 Val.zero))) ?_ ?_
     ·
      intro h37
      have h37q := (Go.Am.not_pos h37)
      have e38 := e36.trans (Go.Am.bif_t h37)
      refine AW.seq (AW.r1 hC [2] [] ⟨[(2, sB false)], []⟩ ?_)
      refine AW.ret ?_
      have e39 := e4.trans (Go.Am.elim_r e38)
      exact AW.rB false e39
     ·
      intro h40
      have h40q := (Go.Am.not_neg h40)
      have e41 := e36.trans (Go.Am.bif_f h40)
      refine AW.kp [9, 10, 11] [] ⟨[(9, sD8 row), (10, sI ((List.length row : Nat) : Int)), (11, sI ((v11 : Nat) : Int))], []⟩ ?_
      refine AW.skip (AW.r0 hC [9, 10, 11] [] ⟨[(9, sD8 row), (10, sI ((List.length row : Nat) : Int)), (11, sI ((v11 + 1 : Nat) : Int))], []⟩ [R64 ((v11 + 1 : Nat) : Int)] ?_ ?_)
      ·
       refine ⟨?_, trivial⟩
       ·
        refine R64.of ?_
        omega
      refine AW.back (x := v11) (v11 + 1) (by kernel_rfl) ⟨?_, k34q, ?_, e41⟩ ?_
      ·
       show True
       assumption
      ·
       show (List.length row) - (v11 + 1) < k34q
       omega
      ·
       show (List.length row) - (v11 + 1) < (List.length row) - v11
       omega
    ·
     intro h42
     have h42q := (of_decide_eq_false h42)
     have e43 := e33.trans (Go.Am.bif_f h42)
     refine AW.kp [] [] ⟨[], []⟩ ?_
     refine AW.exit ?_
     refine AW.meet () (by kernel_rfl) ⟨?_, e43⟩
     show True
     assumption
  ·
   intro x hR
   obtain ⟨hJ0, e44⟩ := hR
   replace hJ0 : True := hJ0
   have e45 := e4.trans (Go.Am.elim_l e44)
   refine AW.seq (AW.r1 hC [2] [] ⟨[(2, sB true)], []⟩ ?_)
   exact AW.ret (AW.rB true e45)

theorem validRow_iff {row : List Val} : validRow row = true ↔ (1 ≤ ((row.length : Nat) : Int) ∧ ((row.length : Nat) : Int) ≤ 6) ∧ VRw row := by
 unfold validRow
 have h := loop_iff (validRow_l0 row) row.length (fun i => valValid (List.getD row i Val.zero)) true (fun k i => rfl)
 cases hw : validWidth ((List.length row : Nat) : Int) with
 | false =>
  refine ⟨fun h => absurd h (by simp), fun h => ?_⟩
  rw [validWidth_iff.2 h.1] at hw
  cases hw
 | true =>
  rw [Bool.not_true, cond_false, h]
  exact ⟨fun h => ⟨validWidth_iff.1 hw, fun j hj => valValid_iff.1 (h.2 j hj)⟩, fun h => ⟨rfl, fun j hj => valValid_iff.2 (h.2 j hj)⟩⟩

def EvalExpr (e : Xpr) (row : List Val) : Val × Bool := (bif (bif (!(validRow row)) then true else (!(iValidExpr (Xpr.mk (Xpr.Kind e) (Xpr.Col e) (Xpr.V e) (Xpr.Kids e)) ((List.length row : Nat) : Int)))) then ((Val.mk false 0), false) else ((value (Xpr.mk (Xpr.Kind e) (Xpr.Col e) (Xpr.V e) (Xpr.Kids e)) row), true))

def EvalExpr_sp : FnSpec := mkSpec [.val (.named 1), .val (.slice (.named 0))] [.val (.named 0), .val .bool] (fun (e : Xpr) (row : List Val) => True) (fun (e : Xpr) (row : List Val) => [⟨(.named 0), ((EvalExpr e row).1)⟩, ⟨.bool, ((EvalExpr e row).2)⟩])

theorem EvalExpr_ok : FnOK Try.prog 11 EvalExpr_sp := by
 have hC : CtxOK Try.prog (mkCtx tyL [(9, iValidExpr_sp), (26, validRow_sp), (27, value_sp)]) := CtxOK.cons iValidExpr_ok (CtxOK.cons validRow_ok (CtxOK.cons value_ok (CtxOK.nil tyOK)))
 refine FnOK.of_body Try.func11 (by kernel_rfl) rfl (C := (mkCtx tyL [(9, iValidExpr_sp), (26, validRow_sp), (27, value_sp)])) hC.ty (by kernel_rfl) ?_
 intro (e : Xpr) (row : List Val) hwf hpre E
 have hpre : True := hpre
 have hw_e : Wf ⟨(.named 1), (e : Xpr)⟩ := hwf _ (List.Mem.head _)
 obtain ⟨hr_e_Kind, hr_e_Col, hl_e_Kids⟩ := Xpr.wfl hw_e
 have hw_row : Wf ⟨(.slice (.named 0)), (row : List Val)⟩ := hwf _ (List.Mem.tail _ (List.Mem.head _))
 have hl_row : ((List.length row : Nat) : Int) ≤ 9223372036854775807 := hw_row.len
 have e0 : EvalExpr e row = EvalExpr e row := rfl
 refine AW.seq (AW.r1 hC [1, 2, 4] [8, 16] ⟨[(1, sD8 row), (2, .ref 8 1 0), (4, .ref 16 1 0)], [(8, .box 1 [sI (Xpr.Kind e), sI (Xpr.Col e), sB (Val.Null (Xpr.V e)), sI (Val.N (Xpr.V e)), sD9 (Xpr.Kids e)]), (16, .box 1 [sB false, sI 0])]⟩ ?_)
 refine AW.seq (AW.seq (AW.r0 hC [1, 2, 4, 15] [8, 16] ⟨[(1, sD8 row), (2, .ref 8 1 0), (4, .ref 16 1 0), (15, sB (bif (!(validRow row)) then true else (!(iValidExpr (Xpr.mk (Xpr.Kind e) (Xpr.Col e) (Xpr.V e) (Xpr.Kids e)) ((List.length row : Nat) : Int)))))], [(8, .box 1 [sI (Xpr.Kind e), sI (Xpr.Col e), sB (Val.Null (Xpr.V e)), sI (Val.N (Xpr.V e)), sD9 (Xpr.Kids e)]), (16, .box 1 [sB false, sI 0])]⟩ [(True), (((!(validRow row)) = false) → (((!(validRow row)) = false))), (((!(validRow row)) = false) → (((!(validRow row)) = false))), (((!(validRow row)) = false) → (((!(validRow row)) = false))), (((!(validRow row)) = false) → (True)), (((!(validRow row)) = false) → (((!(validRow row)) = false))), (((!(validRow row)) = false) → (((!(validRow row)) = false)))] ?_ ?_))
 ·
  refine ⟨?_, ?_, ?_, ?_, ?_, ?_, ?_, trivial⟩
  ·
   trivial
  ·
   intro g1
   have g1p0 : (validRow row) = true := (Go.Am.not_neg g1)
   assumption
  ·
   intro g2
   have g2p0 : (validRow row) = true := (Go.Am.not_neg g2)
   assumption
  ·
   intro g3
   have g3p0 : (validRow row) = true := (Go.Am.not_neg g3)
   assumption
  ·
   intro g4
   have g4p0 : (validRow row) = true := (Go.Am.not_neg g4)
   trivial
  ·
   intro g5
   have g5p0 : (validRow row) = true := (Go.Am.not_neg g5)
   assumption
  ·
   intro g6
   have g6p0 : (validRow row) = true := (Go.Am.not_neg g6)
   assumption
 refine AW.cd (bif (!(validRow row)) then true else (!(iValidExpr (Xpr.mk (Xpr.Kind e) (Xpr.Col e) (Xpr.V e) (Xpr.Kids e)) ((List.length row : Nat) : Int)))) ?_ ?_
 ·
  intro h7
  have h7q : ((validRow row) = false) ∨ ((iValidExpr (Xpr.mk (Xpr.Kind e) (Xpr.Col e) (Xpr.V e) (Xpr.Kids e)) ((List.length row : Nat) : Int)) = false) := (Or.imp (fun h => (Go.Am.not_pos h)) (fun h => (Go.Am.not_pos h)) (Go.Am.or_pos h7))
  have e8 := e0.trans (Go.Am.bif_t h7)
  refine AW.seq (AW.r1 hC [4, 5] [16] ⟨[(4, .ref 16 1 0), (5, sB false)], [(16, .box 1 [sB false, sI 0])]⟩ ?_)
  exact AW.ret (AW.retE (β := Val × Bool) (fun v => [⟨(.named 0), v.1⟩, ⟨.bool, v.2⟩]) (fun v => []) (v := ((Val.mk false 0), false)) e8 (by kernel_rfl) rfl rfl)
 ·
  intro h9
  have h9q : ((validRow row) = true) ∧ ((iValidExpr (Xpr.mk (Xpr.Kind e) (Xpr.Col e) (Xpr.V e) (Xpr.Kids e)) ((List.length row : Nat) : Int)) = true) := (And.imp (fun h => (Go.Am.not_neg h)) (fun h => (Go.Am.not_neg h)) (Go.Am.or_neg h9))
  have e10 := e0.trans (Go.Am.bif_f h9)
  refine AW.kp [1, 2, 4] [8, 16] ⟨[(1, sD8 row), (2, .ref 8 1 0), (4, .ref 16 1 0)], [(8, .box 1 [sI (Xpr.Kind e), sI (Xpr.Col e), sB (Val.Null (Xpr.V e)), sI (Val.N (Xpr.V e)), sD9 (Xpr.Kids e)]), (16, .box 1 [sB false, sI 0])]⟩ ?_
  refine AW.skip (AW.seq (AW.r0 hC [4, 5] [16] ⟨[(4, .ref 16 1 0), (5, sB true)], [(16, .box 1 [sB (Val.Null (value (Xpr.mk (Xpr.Kind e) (Xpr.Col e) (Xpr.V e) (Xpr.Kids e)) row)), sI (Val.N (value (Xpr.mk (Xpr.Kind e) (Xpr.Col e) (Xpr.V e) (Xpr.Kids e)) row))])]⟩ [(VXr row (Xpr.mk (Xpr.Kind e) (Xpr.Col e) (Xpr.V e) (Xpr.Kids e)))] ?_ ?_))
  ·
   refine ⟨?_, trivial⟩
   ·
    rw [Xpr.eta]
    exact ⟨(validRow_iff.1 h9q.1).2, 8, (iValidExpr_iff.1 (Xpr.eta e ▸ h9q.2)).2⟩
  exact AW.ret (AW.retE (β := Val × Bool) (fun v => [⟨(.named 0), v.1⟩, ⟨.bool, v.2⟩]) (fun v => []) (v := ((value (Xpr.mk (Xpr.Kind e) (Xpr.Col e) (Xpr.V e) (Xpr.Kids e)) row), true)) e10 (by kernel_rfl) rfl rfl)

theorem EvalExpr_eq {e : Xpr} {row : List Val} (h : 1 ≤ ((row.length : Nat) : Int) ∧ ((row.length : Nat) : Int) ≤ 6) (hV : VRw row) (hE : VE ((row.length : Nat) : Int) 8 e) : EvalExpr e row = (value e row, true) := by
 unfold EvalExpr
 rw [Xpr.eta, validRow_iff.2 ⟨h, hV⟩, iValidExpr_iff.2 ⟨h, hE⟩]
 rfl

end
end Go.Proofs.Ytjhnpnnlimpgdaa
