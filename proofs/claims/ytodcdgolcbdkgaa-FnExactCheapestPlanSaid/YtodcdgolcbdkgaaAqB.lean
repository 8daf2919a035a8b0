/-
  A part of the proof of this claim (AqB): what functions of the program compute, and plain facts of that. No conditions.
-/
import Derived.Test.YtodcdgolcbdkgaaAqA
set_option linter.all false
namespace Go.Proofs.Ytodcdgolcbdkgaa
open Go Go.Am
noncomputable section

def validDb_l0 (stats : List Sta) : Nat → Nat → (List Int) → (List Int) ⊕ Bool
 | 0, i, widths => .inl widths
 | k + 1, i, widths => (bif (decide (((i : Nat) : Int) < ((List.length stats : Nat) : Int))) then (bif (!(ValidStats (List.getD stats i Sta.zero) ((List.length (Sta.Distinct (List.getD stats i Sta.zero)) : Nat) : Int))) then (.inr false) else (validDb_l0 stats k (i + 1) (widths ++ ([((List.length (Sta.Distinct (List.getD stats i Sta.zero)) : Nat) : Int)] : List Int)))) else (.inl widths))

def validDb (p : Pln) (stats : List Sta) : Bool := (Sum.elim (fun z => (fun (widths : List Int) => (decide (0 < (widthOf (Pln.mk (Pln.Kind p) (Pln.Table p) (Pln.Exprs p) (Pln.Cols p) (Pln.Kids p)) widths)))) z) (fun r => r) (validDb_l0 stats ((List.length stats) - 0 + 1) 0 ([] : List Int)))

def validDb_sp : FnSpec := mkSpec [.val (.named 2), .val (.slice (.named 3))] [.val .bool] (fun (p : Pln) (stats : List Sta) => (List.length stats : Int) ≤ 1048576) (fun (p : Pln) (stats : List Sta) => [⟨.bool, (validDb p stats)⟩])

theorem validDb_ok : FnOK Try.prog 69 validDb_sp := by
 have hC : CtxOK Try.prog (mkCtx tyL [(77, widthOf_sp), (107, ValidStats_sp)]) := CtxOK.cons widthOf_ok (CtxOK.cons ValidStats_ok (CtxOK.nil tyOK))
 have hM : Try.prog.follows .mixedOrders = true := Try.checked.mixed
 refine FnOK.of_body Try.func69 (by kernel_rfl) rfl (C := (mkCtx tyL [(77, widthOf_sp), (107, ValidStats_sp)])) hC.ty (by kernel_rfl) ?_
 intro (p : Pln) (stats : List Sta) hwf hpre E
 have hpre : (List.length stats : Int) ≤ 1048576 := hpre
 have hw_p : Wf ⟨(.named 2), (p : Pln)⟩ := hwf _ (List.Mem.head _)
 obtain ⟨hr_p_Kind, hr_p_Table, hl_p_Exprs, hl_p_Cols, hl_p_Kids⟩ := Pln.wfl hw_p
 have hw_stats : Wf ⟨(.slice (.named 3)), (stats : List Sta)⟩ := hwf _ (List.Mem.tail _ (List.Mem.head _))
 have hl_stats : ((List.length stats : Nat) : Int) ≤ 9223372036854775807 := hw_stats.len
 have e0 : validDb p stats = validDb p stats := rfl
 refine AW.seq (AW.r1 hC [1, 2] [8] ⟨[(1, sD11 stats), (2, .ref 8 1 0)], [(8, .box 1 [sI (Pln.Kind p), sI (Pln.Table p), sD9 (Pln.Exprs p), sD7 (Pln.Cols p), sD10 (Pln.Kids p)])]⟩ ?_)
 refine AW.seq (AW.r1 hC [1, 2, 5] [8, 28] ⟨[(1, sD11 stats), (2, .ref 8 1 0), (5, .arr 28 1)], [(8, .box 1 [sI (Pln.Kind p), sI (Pln.Table p), sD9 (Pln.Exprs p), sD7 (Pln.Cols p), sD10 (Pln.Kids p)]), (28, .arr 1 (.int .i64) (([] : List Int) : List Int))]⟩ ?_)
 refine AW.seq (AW.seq (AW.r1 hC [1, 2, 5, 6] [8, 28] ⟨[(1, sD11 stats), (2, .ref 8 1 0), (5, .arr 28 1), (6, sI 0)], [(8, .box 1 [sI (Pln.Kind p), sI (Pln.Table p), sD9 (Pln.Exprs p), sD7 (Pln.Cols p), sD10 (Pln.Kids p)]), (28, .arr 1 (.int .i64) (([] : List Int) : List Int))]⟩ ?_))
 refine AW.cutQ (α := (List Int)) (fun x => ⟨[(2, .ref 8 1 0), (5, .arr 28 1)], [(8, .box 1 [sI (Pln.Kind p), sI (Pln.Table p), sD9 (Pln.Exprs p), sD7 (Pln.Cols p), sD10 (Pln.Kids p)]), (28, .arr 1 (.int .i64) (x : List Int))]⟩) (fun x => (True) ∧ (validDb_l0 stats ((List.length stats) - 0 + 1) 0 ([] : List Int)) = (.inl x)) ?_ ?_
 ·
  skip
  refine AW.block (AW.loop (α := Nat × (List Int)) (fun x => ⟨[(1, sD11 stats), (2, .ref 8 1 0), (5, .arr 28 1), (6, sI ((x.1 : Nat) : Int))], [(8, .box 1 [sI (Pln.Kind p), sI (Pln.Table p), sD9 (Pln.Exprs p), sD7 (Pln.Cols p), sD10 (Pln.Kids p)]), (28, .arr 1 (.int .i64) (x.2 : List Int))]⟩) (fun x => (List.length x.2 = x.1) ∧ ∃ k, (List.length stats) - x.1 < k ∧ (validDb_l0 stats ((List.length stats) - 0 + 1) 0 ([] : List Int)) = validDb_l0 stats k x.1 x.2) (fun x => (List.length stats) - x.1) (0, ([] : List Int)) (by kernel_rfl) ⟨?_, _, Nat.lt_succ_self _, rfl⟩ ?_)
  ·
   show List.length ([] : List Int) = 0
   simp
  ·
   intro x hR
   obtain ⟨i, widths⟩ := x
   obtain ⟨hI0, k30, hk28, e29⟩ := hR
   replace hI0 : List.length widths = i := hI0
   replace hk28 : (List.length stats) - i < k30 := hk28
   obtain ⟨k30q, rfl⟩ : ∃ k, k30 = k + 1 := ⟨k30 - 1, by omega⟩
   refine AW.seq (AW.seq (AW.r1 hC [1, 2, 5, 6, 11] [8, 28] ⟨[(1, sD11 stats), (2, .ref 8 1 0), (5, .arr 28 1), (6, sI ((i : Nat) : Int)), (11, sB (decide (((i : Nat) : Int) < ((List.length stats : Nat) : Int))))], [(8, .box 1 [sI (Pln.Kind p), sI (Pln.Table p), sD9 (Pln.Exprs p), sD7 (Pln.Cols p), sD10 (Pln.Kids p)]), (28, .arr 1 (.int .i64) (widths : List Int))]⟩ ?_))
   refine AW.cd (decide (((i : Nat) : Int) < ((List.length stats : Nat) : Int))) ?_ ?_
   ·
    intro h31
    have h31q := (of_decide_eq_true h31)
    have e32 := e29.trans (Go.Am.bif_t h31)
    refine AW.kp [1, 2, 5, 6] [8, 28] ⟨[(1, sD11 stats), (2, .ref 8 1 0), (5, .arr 28 1), (6, sI ((i : Nat) : Int))], [(8, .box 1 [sI (Pln.Kind p), sI (Pln.Table p), sD9 (Pln.Exprs p), sD7 (Pln.Cols p), sD10 (Pln.Kids p)]), (28, .arr 1 (.int .i64) (widths : List Int))]⟩ ?_
    refine AW.skip (AW.seq (AW.block (AW.seq (AW.seq (AW.d0 hC hM [1, 2, 5, 6, 25] [8, 28] ⟨[(1, sD11 stats), (2, .ref 8 1 0), (5, .arr 28 1), (6, sI ((i : Nat) : Int)), (25, sB (!(ValidStats (List.getD stats i Sta.zero) ((List.length (Sta.Distinct (List.getD stats i Sta.zero)) : Nat) : Int))))], [(8, .box 1 [sI (Pln.Kind p), sI (Pln.Table p), sD9 (Pln.Exprs p), sD7 (Pln.Cols p), sD10 (Pln.Kids p)]), (28, .arr 1 (.int .i64) (widths : List Int))]⟩ [IX ((i : Nat) : Int) ((List.length stats : Nat) : Int), IX ((i : Nat) : Int) ((List.length stats : Nat) : Int), (True)] ?_ ?_)))))
    ·
     refine ⟨?_, ?_, ?_, trivial⟩
     ·
      refine IX.of ?_
      omega
     ·
      refine IX.of ?_
      omega
     ·
      trivial
    refine AW.cd (!(ValidStats (List.getD stats i Sta.zero) ((List.length (Sta.Distinct (List.getD stats i Sta.zero)) : Nat) : Int))) ?_ ?_
    ·
     intro h33
     have h33q := (Go.Am.not_pos h33)
     have e34 := e32.trans (Go.Am.bif_t h33)
     refine AW.seq (AW.r1 hC [4] [] ⟨[(4, sB false)], []⟩ ?_)
     refine AW.ret ?_
     have e35 := e0.trans (Go.Am.elim_r e34)
     exact AW.rB false e35
    ·
     intro h36
     have h36q := (Go.Am.not_neg h36)
     have e37 := e32.trans (Go.Am.bif_f h36)
     refine AW.kp [1, 2, 5, 6] [8, 28] ⟨[(1, sD11 stats), (2, .ref 8 1 0), (5, .arr 28 1), (6, sI ((i : Nat) : Int))], [(8, .box 1 [sI (Pln.Kind p), sI (Pln.Table p), sD9 (Pln.Exprs p), sD7 (Pln.Cols p), sD10 (Pln.Kids p)]), (28, .arr 1 (.int .i64) (widths : List Int))]⟩ ?_
     refine AW.skip (AW.r0 hC [1, 2, 5, 6] [8, 28] ⟨[(1, sD11 stats), (2, .ref 8 1 0), (5, .arr 28 1), (6, sI ((i : Nat) : Int))], [(8, .box 1 [sI (Pln.Kind p), sI (Pln.Table p), sD9 (Pln.Exprs p), sD7 (Pln.Cols p), sD10 (Pln.Kids p)]), (28, .arr 1 (.int .i64) ((widths ++ ([((List.length (Sta.Distinct (List.getD stats i Sta.zero)) : Nat) : Int)] : List Int)) : List Int))]⟩ [IX ((i : Nat) : Int) ((List.length stats : Nat) : Int), (((List.length widths : Nat) : Int) + ((List.length ([((List.length (Sta.Distinct (List.getD stats i Sta.zero)) : Nat) : Int)] : List Int) : Nat) : Int) ≤ 4294967296)] ?_ ?_)
     ·
      refine ⟨?_, ?_, trivial⟩
      ·
       refine IX.of ?_
       omega
      ·
       simp only [List.length_append, List.length_cons, List.length_nil] at *; omega
     refine AW.r0 hC [1, 2, 5, 6] [8, 28] ⟨[(1, sD11 stats), (2, .ref 8 1 0), (5, .arr 28 1), (6, sI ((i + 1 : Nat) : Int))], [(8, .box 1 [sI (Pln.Kind p), sI (Pln.Table p), sD9 (Pln.Exprs p), sD7 (Pln.Cols p), sD10 (Pln.Kids p)]), (28, .arr 1 (.int .i64) ((widths ++ ([((List.length (Sta.Distinct (List.getD stats i Sta.zero)) : Nat) : Int)] : List Int)) : List Int))]⟩ [R64 ((i + 1 : Nat) : Int)] ?_ ?_
     ·
      refine ⟨?_, trivial⟩
      ·
       refine R64.of ?_
       omega
     refine AW.back (x := (i, widths)) (i + 1, (widths ++ ([((List.length (Sta.Distinct (List.getD stats i Sta.zero)) : Nat) : Int)] : List Int))) (by kernel_rfl) ⟨?_, k30q, ?_, e37⟩ ?_
     ·
      show List.length (widths ++ ([((List.length (Sta.Distinct (List.getD stats i Sta.zero)) : Nat) : Int)] : List Int)) = (i + 1)
      simp only [lens] at *; omega
     ·
      show (List.length stats) - (i + 1) < k30q
      omega
     ·
      show (List.length stats) - (i + 1) < (List.length stats) - i
      omega
   ·
    intro h38
    have h38q := (of_decide_eq_false h38)
    have e39 := e29.trans (Go.Am.bif_f h38)
    refine AW.kp [2, 5] [8, 28] ⟨[(2, .ref 8 1 0), (5, .arr 28 1)], [(8, .box 1 [sI (Pln.Kind p), sI (Pln.Table p), sD9 (Pln.Exprs p), sD7 (Pln.Cols p), sD10 (Pln.Kids p)]), (28, .arr 1 (.int .i64) (widths : List Int))]⟩ ?_
    refine AW.exit ?_
    refine AW.meet widths (by kernel_rfl) ⟨?_, e39⟩
    show True
    exact trivial
 ·
  intro widths hR
  obtain ⟨hJ0, e40⟩ := hR
  replace hJ0 : True := hJ0
  have e41 := e0.trans (Go.Am.elim_l e40)
  refine AW.seq (AW.r0 hC [4] [] ⟨[(4, sB (decide (0 < (widthOf (Pln.mk (Pln.Kind p) (Pln.Table p) (Pln.Exprs p) (Pln.Cols p) (Pln.Kids p)) widths))))], []⟩ [(True)] ?_ ?_)
  ·
   refine ⟨?_, trivial⟩
   ·
    trivial
  exact AW.ret (AW.rB (decide (0 < (widthOf (Pln.mk (Pln.Kind p) (Pln.Table p) (Pln.Exprs p) (Pln.Cols p) (Pln.Kids p)) widths))) e41)

theorem map_take_succ {stats : List Sta} {i : Nat} (h : i < stats.length) : ((stats.take i).map fun s => ((s.Distinct.length : Nat) : Int)) ++ [(((List.getD stats i Sta.zero).Distinct.length : Nat) : Int)] = (stats.take (i + 1)).map fun s => ((s.Distinct.length : Nat) : Int) := by
 have e : List.getD stats i Sta.zero = stats[i] := by simp [h]
 rw [List.take_succ_eq_append_getElem h, List.map_append, e]
 rfl

theorem validDb_loop (stats : List Sta) : ∀ (k i : Nat) (ws : List Int), stats.length - i < k → i ≤ stats.length → ws = ((stats.take i).map fun s => ((s.Distinct.length : Nat) : Int)) →
  (validDb_l0 stats k i ws = .inl (statsWidths stats) ∧ ∀ j, i ≤ j → j < stats.length → VSt (List.getD stats j Sta.zero)) ∨ (validDb_l0 stats k i ws = .inr false ∧ ¬ AllSt stats) := by
 intro k
 induction k with
 | zero => intro i ws h; omega
 | succ k ih =>
  intro i ws h hi0 hw
  unfold validDb_l0
  by_cases hi : i < stats.length
  ·
   rw [lt_dec hi, cond_true]
   cases hb : ValidStats (List.getD stats i Sta.zero) ((List.length (Sta.Distinct (List.getD stats i Sta.zero)) : Nat) : Int) with
   | false =>
    refine .inr ⟨rfl, fun ha => ?_⟩
    rw [ValidStats_iff.2 (ha i hi)] at hb
    cases hb
   | true =>
    simp only [Bool.not_true, cond_false]
    rcases ih (i + 1) (ws ++ ([((List.length (Sta.Distinct (List.getD stats i Sta.zero)) : Nat) : Int)] : List Int)) (by omega) (by omega) (by rw [hw]; exact map_take_succ hi) with ⟨a, b⟩ | a
    ·
     refine .inl ⟨a, fun j hj hjl => ?_⟩
     rcases Nat.eq_or_lt_of_le hj with rfl | hj
     ·
      exact ValidStats_iff.1 hb
     ·
      exact b j (by omega) hjl
    ·
     exact .inr a
  ·
   rw [ge_dec hi, cond_false]
   refine .inl ⟨?_, fun j hj hjl => by omega⟩
   rw [hw, statsWidths_eq, List.take_of_length_le (by omega)]

theorem validDb_iff {p : Pln} {stats : List Sta} : validDb p stats = true ↔ AllSt stats ∧ widthOf p (statsWidths stats) ≠ 0 := by
 unfold validDb
 simp only [Pln.eta]
 rcases validDb_loop stats ((List.length stats) - 0 + 1) 0 [] (by omega) (Nat.zero_le _) rfl with ⟨a, b⟩ | ⟨a, b⟩
 ·
  rw [a]
  simp only [Sum.elim_inl, decide_eq_true_eq]
  have := widthOf_b p (statsWidths stats)
  exact ⟨fun h => ⟨fun j hj => b j (Nat.zero_le _) hj, by omega⟩, fun h => by have := h.2; omega⟩
 ·
  rw [a]
  simp only [Sum.elim_inr, Bool.false_eq_true, false_iff]
  exact fun h => b h.1

def iestd_l0 (stats : List Sta) : Nat → Nat → Unit ⊕ (Int × Int)
 | 0, v14 => .inl ()
 | k + 1, v14 => (bif (decide (((v14 : Nat) : Int) < ((List.length stats : Nat) : Int))) then (bif (!(iValidStats (List.getD stats v14 Sta.zero) ((List.length (Sta.Distinct (List.getD stats v14 Sta.zero)) : Nat) : Int))) then (.inr ((-1), (-1))) else (iestd_l0 stats k (v14 + 1))) else (.inl ()))

def iestd (p : Pln) (stats : List Sta) : Int × Int := (bif (decide (4 < ((List.length stats : Nat) : Int))) then ((-1), (-1)) else (Sum.elim (fun _ => (bif ((iPlanWidth p (statsWidths stats)) == 0) then ((-1), (-1)) else (((iest p stats (Cel.mk 0)).1), (Cel.v ((iest p stats (Cel.mk 0)).2))))) (fun r => r) (iestd_l0 stats ((List.length stats) - 0 + 1) 0)))

def iestd_sp : FnSpec := mkSpec [.rd (.named 2), .val (.slice (.named 3))] [.val (.int .i64), .val (.int .i64)] (fun (p : Pln) (stats : List Sta) => True) (fun (p : Pln) (stats : List Sta) => [⟨(.int .i64), ((iestd p stats).1)⟩, ⟨(.int .i64), ((iestd p stats).2)⟩])

theorem iestd_ok : FnOK Try.prog 73 iestd_sp := by
 have hC : CtxOK Try.prog (mkCtx tyL [(54, iPlanWidth_sp), (108, iValidStats_sp), (109, statsWidths_sp), (110, iest_sp)]) := CtxOK.cons iPlanWidth_ok (CtxOK.cons iValidStats_ok (CtxOK.cons statsWidths_ok (CtxOK.cons iest_ok (CtxOK.nil tyOK))))
 have hM : Try.prog.follows .mixedOrders = true := Try.checked.mixed
 refine FnOK.of_body Try.func73 (by kernel_rfl) rfl (C := (mkCtx tyL [(54, iPlanWidth_sp), (108, iValidStats_sp), (109, statsWidths_sp), (110, iest_sp)])) hC.ty (by kernel_rfl) ?_
 intro (p : Pln) (stats : List Sta) hwf hpre E
 have hpre : True := hpre
 have hw_p : Wf ⟨(.named 2), (p : Pln)⟩ := hwf _ (List.Mem.head _)
 obtain ⟨hr_p_Kind, hr_p_Table, hl_p_Exprs, hl_p_Cols, hl_p_Kids⟩ := Pln.wfl hw_p
 have hw_stats : Wf ⟨(.slice (.named 3)), (stats : List Sta)⟩ := hwf _ (List.Mem.tail _ (List.Mem.head _))
 have hl_stats : ((List.length stats : Nat) : Int) ≤ 9223372036854775807 := hw_stats.len
 have e0 : iestd p stats = iestd p stats := rfl
 refine AW.seq (AW.r1 hC [0, 1] [] ⟨[(0, sR4 p), (1, sD11 stats)], []⟩ ?_)
 refine AW.seq (AW.seq (AW.r1 hC [0, 1, 11] [] ⟨[(0, sR4 p), (1, sD11 stats), (11, sB (decide (4 < ((List.length stats : Nat) : Int))))], []⟩ ?_))
 refine AW.cd (decide (4 < ((List.length stats : Nat) : Int))) ?_ ?_
 ·
  intro h1
  have h1q := (of_decide_eq_true h1)
  have e2 := e0.trans (Go.Am.bif_t h1)
  refine AW.seq (AW.r1 hC [4, 5] [] ⟨[(4, sI (-1)), (5, sI (-1))], []⟩ ?_)
  exact AW.ret (AW.retE (β := Int × Int) (fun v => [⟨(.int .i64), v.1⟩, ⟨(.int .i64), v.2⟩]) (fun v => []) (v := ((-1), (-1))) e2 (by kernel_rfl) rfl rfl)
 ·
  intro h3
  have h3q := (of_decide_eq_false h3)
  have e4 := e0.trans (Go.Am.bif_f h3)
  refine AW.kp [0, 1] [] ⟨[(0, sR4 p), (1, sD11 stats)], []⟩ ?_
  refine AW.skip (AW.seq (AW.seq (AW.r1 hC [0, 1, 13, 14] [] ⟨[(0, sR4 p), (1, sD11 stats), (13, sI ((List.length stats : Nat) : Int)), (14, sI 0)], []⟩ ?_)))
  refine AW.cutQ (α := Unit) (fun x => ⟨[(0, sR4 p), (1, sD11 stats)], []⟩) (fun x => (AllSt stats) ∧ (iestd_l0 stats ((List.length stats) - 0 + 1) 0) = (.inl ())) ?_ ?_
  ·
   skip
   refine AW.block (AW.loop (α := Nat) (fun x => ⟨[(0, sR4 p), (1, sD11 stats), (13, sI ((List.length stats : Nat) : Int)), (14, sI ((x : Nat) : Int))], []⟩) (fun x => (∀ j, j < x → VSt (List.getD stats j Sta.zero)) ∧ ∃ k, (List.length stats) - x < k ∧ (iestd_l0 stats ((List.length stats) - 0 + 1) 0) = iestd_l0 stats k x) (fun x => (List.length stats) - x) 0 (by kernel_rfl) ⟨?_, _, Nat.lt_succ_self _, rfl⟩ ?_)
   ·
    show ∀ j, j < 0 → VSt (List.getD stats j Sta.zero)
    exact fun j hj => absurd hj (Nat.not_lt_zero _)
   ·
    intro v14 hR
    obtain ⟨hI0, k34, hk32, e33⟩ := hR
    replace hI0 : ∀ j, j < v14 → VSt (List.getD stats j Sta.zero) := hI0
    replace hk32 : (List.length stats) - v14 < k34 := hk32
    obtain ⟨k34q, rfl⟩ : ∃ k, k34 = k + 1 := ⟨k34 - 1, by omega⟩
    refine AW.seq (AW.r1 hC [0, 1, 13, 14, 15] [] ⟨[(0, sR4 p), (1, sD11 stats), (13, sI ((List.length stats : Nat) : Int)), (14, sI ((v14 : Nat) : Int)), (15, sB (decide (((v14 : Nat) : Int) < ((List.length stats : Nat) : Int))))], []⟩ ?_)
    refine AW.seq (AW.cd (decide (((v14 : Nat) : Int) < ((List.length stats : Nat) : Int))) ?_ ?_)
    ·
     intro h35
     have h35q := (of_decide_eq_true h35)
     have e36 := e33.trans (Go.Am.bif_t h35)
     refine AW.kp [0, 1, 13, 14] [] ⟨[(0, sR4 p), (1, sD11 stats), (13, sI ((List.length stats : Nat) : Int)), (14, sI ((v14 : Nat) : Int))], []⟩ ?_
     refine AW.skip (AW.seq (AW.block (AW.seq (AW.r1 hC [0, 1, 6, 13, 14] [] ⟨[(0, sR4 p), (1, sD11 stats), (6, sI ((v14 : Nat) : Int)), (13, sI ((List.length stats : Nat) : Int)), (14, sI ((v14 : Nat) : Int))], []⟩ ?_))))
     refine AW.seq (AW.d0 hC hM [0, 1, 13, 14, 28] [] ⟨[(0, sR4 p), (1, sD11 stats), (13, sI ((List.length stats : Nat) : Int)), (14, sI ((v14 : Nat) : Int)), (28, sB (!(iValidStats (List.getD stats v14 Sta.zero) ((List.length (Sta.Distinct (List.getD stats v14 Sta.zero)) : Nat) : Int))))], []⟩ [IX ((v14 : Nat) : Int) ((List.length stats : Nat) : Int), IX ((v14 : Nat) : Int) ((List.length stats : Nat) : Int), (True)] ?_ ?_)
     ·
      refine ⟨?_, ?_, ?_, trivial⟩
      ·
       refine IX.of ?_
       omega
      ·
       refine IX.of ?_
       omega
      ·
       trivial
     refine AW.cd (!(iValidStats (List.getD stats v14 Sta.zero) ((List.length (Sta.Distinct (List.getD stats v14 Sta.zero)) : Nat) : Int))) ?_ ?_
     ·
      intro h37
      have h37q := (Go.Am.not_pos h37)
      have e38 := e36.trans (Go.Am.bif_t h37)
      refine AW.seq (AW.r1 hC [4, 5] [] ⟨[(4, sI (-1)), (5, sI (-1))], []⟩ ?_)
      refine AW.ret ?_
      have e39 := e4.trans (Go.Am.elim_r e38)
      exact AW.retE (β := Int × Int) (fun v => [⟨(.int .i64), v.1⟩, ⟨(.int .i64), v.2⟩]) (fun v => []) (v := ((-1), (-1))) e39 (by kernel_rfl) rfl rfl
     ·
      intro h40
      have h40q := (Go.Am.not_neg h40)
      have e41 := e36.trans (Go.Am.bif_f h40)
      refine AW.kp [0, 1, 13, 14] [] ⟨[(0, sR4 p), (1, sD11 stats), (13, sI ((List.length stats : Nat) : Int)), (14, sI ((v14 : Nat) : Int))], []⟩ ?_
      refine AW.skip (AW.r0 hC [0, 1, 13, 14] [] ⟨[(0, sR4 p), (1, sD11 stats), (13, sI ((List.length stats : Nat) : Int)), (14, sI ((v14 + 1 : Nat) : Int))], []⟩ [R64 ((v14 + 1 : Nat) : Int)] ?_ ?_)
      ·
       refine ⟨?_, trivial⟩
       ·
        refine R64.of ?_
        omega
      refine AW.back (x := v14) (v14 + 1) (by kernel_rfl) ⟨?_, k34q, ?_, e41⟩ ?_
      ·
       show ∀ j, j < (v14 + 1) → VSt (List.getD stats j Sta.zero)
       intro j hj
       by_cases hj2 : j < v14
       ·
        exact hI0 j hj2
       ·
        have : j = v14 := by omega
        subst this
        exact iValidStats_iff.1 h40q
      ·
       show (List.length stats) - (v14 + 1) < k34q
       omega
      ·
       show (List.length stats) - (v14 + 1) < (List.length stats) - v14
       omega
    ·
     intro h42
     have h42q := (of_decide_eq_false h42)
     have e43 := e33.trans (Go.Am.bif_f h42)
     refine AW.kp [0, 1] [] ⟨[(0, sR4 p), (1, sD11 stats)], []⟩ ?_
     refine AW.exit ?_
     refine AW.meet () (by kernel_rfl) ⟨?_, e43⟩
     show AllSt stats
     intro j hj
     exact hI0 j (by omega)
  ·
   intro x hR
   obtain ⟨hJ0, e44⟩ := hR
   replace hJ0 : AllSt stats := hJ0
   have e45 := e4.trans (Go.Am.elim_l e44)
   refine AW.seq (AW.seq (AW.d0 hC hM [0, 1, 36] [] ⟨[(0, sR4 p), (1, sD11 stats), (36, sB ((iPlanWidth p (statsWidths stats)) == 0))], []⟩ [((List.length stats : Int) ≤ 1000000), (True)] ?_ ?_))
   ·
    refine ⟨?_, ?_, trivial⟩
    ·
     omega
    ·
     trivial
   refine AW.cd ((iPlanWidth p (statsWidths stats)) == 0) ?_ ?_
   ·
    intro h46
    have h46q := (Go.Am.beq_pos h46)
    have e47 := e45.trans (Go.Am.bif_t h46)
    refine AW.seq (AW.r1 hC [4, 5] [] ⟨[(4, sI (-1)), (5, sI (-1))], []⟩ ?_)
    exact AW.ret (AW.retE (β := Int × Int) (fun v => [⟨(.int .i64), v.1⟩, ⟨(.int .i64), v.2⟩]) (fun v => []) (v := ((-1), (-1))) e47 (by kernel_rfl) rfl rfl)
   ·
    intro h48
    have h48q := (Go.Am.beq_neg h48)
    have e49 := e45.trans (Go.Am.bif_f h48)
    refine AW.kp [0, 1] [] ⟨[(0, sR4 p), (1, sD11 stats)], []⟩ ?_
    refine AW.skip (AW.seq (AW.r1 hC [0, 1, 7] [28] ⟨[(0, sR4 p), (1, sD11 stats), (7, .ref 28 1 0)], [(28, .box 1 [sI 0])]⟩ ?_))
    refine AW.seq (AW.r0 hC [7, 8] [28] ⟨[(7, .ref 28 1 0), (8, sI ((iest p stats (Cel.mk 0)).1))], [(28, .box 1 [sI (Cel.v ((iest p stats (Cel.mk 0)).2))])]⟩ [(PE stats p (Cel.mk 0))] ?_ ?_)
    ·
     refine ⟨?_, trivial⟩
     ·
      exact (PSt.mk' hJ0 (by rw [← iPlanWidth_eq]; exact h48q)).pe
    refine AW.seq (AW.d1 hC hM [4, 5] [] ⟨[(4, sI ((iest p stats (Cel.mk 0)).1)), (5, sI (Cel.v ((iest p stats (Cel.mk 0)).2)))], []⟩ ?_)
    exact AW.ret (AW.retE (β := Int × Int) (fun v => [⟨(.int .i64), v.1⟩, ⟨(.int .i64), v.2⟩]) (fun v => []) (v := (((iest p stats (Cel.mk 0)).1), (Cel.v ((iest p stats (Cel.mk 0)).2)))) e49 (by kernel_rfl) rfl rfl)

def EstimateRows (p : Pln) (stats : List Sta) : Int := (bif (!(validDb (Pln.mk (Pln.Kind p) (Pln.Table p) (Pln.Exprs p) (Pln.Cols p) (Pln.Kids p)) stats)) then (-1) else (est (Pln.mk (Pln.Kind p) (Pln.Table p) (Pln.Exprs p) (Pln.Cols p) (Pln.Kids p)) stats))

def EstimateRows_sp : FnSpec := mkSpec [.val (.named 2), .val (.slice (.named 3))] [.val (.int .i64)] (fun (p : Pln) (stats : List Sta) => (List.length stats : Int) ≤ 1048576) (fun (p : Pln) (stats : List Sta) => [⟨(.int .i64), (EstimateRows p stats)⟩])

theorem EstimateRows_ok : FnOK Try.prog 41 EstimateRows_sp := by
 have hC : CtxOK Try.prog (mkCtx tyL [(69, validDb_sp), (83, est_sp)]) := CtxOK.cons validDb_ok (CtxOK.cons est_ok (CtxOK.nil tyOK))
 refine FnOK.of_body Try.func41 (by kernel_rfl) rfl (C := (mkCtx tyL [(69, validDb_sp), (83, est_sp)])) hC.ty (by kernel_rfl) ?_
 intro (p : Pln) (stats : List Sta) hwf hpre E
 have hpre : (List.length stats : Int) ≤ 1048576 := hpre
 have hw_p : Wf ⟨(.named 2), (p : Pln)⟩ := hwf _ (List.Mem.head _)
 obtain ⟨hr_p_Kind, hr_p_Table, hl_p_Exprs, hl_p_Cols, hl_p_Kids⟩ := Pln.wfl hw_p
 have hw_stats : Wf ⟨(.slice (.named 3)), (stats : List Sta)⟩ := hwf _ (List.Mem.tail _ (List.Mem.head _))
 have hl_stats : ((List.length stats : Nat) : Int) ≤ 9223372036854775807 := hw_stats.len
 have e0 : EstimateRows p stats = EstimateRows p stats := rfl
 refine AW.seq (AW.r1 hC [1, 2] [8] ⟨[(1, sD11 stats), (2, .ref 8 1 0)], [(8, .box 1 [sI (Pln.Kind p), sI (Pln.Table p), sD9 (Pln.Exprs p), sD7 (Pln.Cols p), sD10 (Pln.Kids p)])]⟩ ?_)
 refine AW.seq (AW.seq (AW.r0 hC [1, 2, 8] [8] ⟨[(1, sD11 stats), (2, .ref 8 1 0), (8, sB (!(validDb (Pln.mk (Pln.Kind p) (Pln.Table p) (Pln.Exprs p) (Pln.Cols p) (Pln.Kids p)) stats)))], [(8, .box 1 [sI (Pln.Kind p), sI (Pln.Table p), sD9 (Pln.Exprs p), sD7 (Pln.Cols p), sD10 (Pln.Kids p)])]⟩ [((List.length stats : Int) ≤ 1048576)] ?_ ?_))
 ·
  refine ⟨?_, trivial⟩
  ·
   exact hpre
 refine AW.cd (!(validDb (Pln.mk (Pln.Kind p) (Pln.Table p) (Pln.Exprs p) (Pln.Cols p) (Pln.Kids p)) stats)) ?_ ?_
 ·
  intro h1
  have h1q := (Go.Am.not_pos h1)
  have e2 := e0.trans (Go.Am.bif_t h1)
  refine AW.seq (AW.r1 hC [4] [] ⟨[(4, sI (-1))], []⟩ ?_)
  exact AW.ret (AW.rI (-1) e2)
 ·
  intro h3
  have h3q := (Go.Am.not_neg h3)
  have e4 := e0.trans (Go.Am.bif_f h3)
  refine AW.kp [1, 2] [8] ⟨[(1, sD11 stats), (2, .ref 8 1 0)], [(8, .box 1 [sI (Pln.Kind p), sI (Pln.Table p), sD9 (Pln.Exprs p), sD7 (Pln.Cols p), sD10 (Pln.Kids p)])]⟩ ?_
  refine AW.skip (AW.seq (AW.r0 hC [4] [] ⟨[(4, sI (est (Pln.mk (Pln.Kind p) (Pln.Table p) (Pln.Exprs p) (Pln.Cols p) (Pln.Kids p)) stats))], []⟩ [(∃ l, PSt stats l (Pln.mk (Pln.Kind p) (Pln.Table p) (Pln.Exprs p) (Pln.Cols p) (Pln.Kids p)))] ?_ ?_))
  ·
   refine ⟨?_, trivial⟩
   ·
    have hd := validDb_iff.1 h3q
    exact ⟨8, PSt.mk' hd.1 hd.2⟩
  exact AW.ret (AW.rI (est (Pln.mk (Pln.Kind p) (Pln.Table p) (Pln.Exprs p) (Pln.Cols p) (Pln.Kids p)) stats) e4)

def EstimateCost (p : Pln) (stats : List Sta) : Int := (bif (!(validDb (Pln.mk (Pln.Kind p) (Pln.Table p) (Pln.Exprs p) (Pln.Cols p) (Pln.Kids p)) stats)) then (-1) else (ecost (Pln.mk (Pln.Kind p) (Pln.Table p) (Pln.Exprs p) (Pln.Cols p) (Pln.Kids p)) stats))

def EstimateCost_sp : FnSpec := mkSpec [.val (.named 2), .val (.slice (.named 3))] [.val (.int .i64)] (fun (p : Pln) (stats : List Sta) => (List.length stats : Int) ≤ 1048576) (fun (p : Pln) (stats : List Sta) => [⟨(.int .i64), (EstimateCost p stats)⟩])

theorem EstimateCost_ok : FnOK Try.prog 17 EstimateCost_sp := by
 have hC : CtxOK Try.prog (mkCtx tyL [(69, validDb_sp), (70, ecost_sp)]) := CtxOK.cons validDb_ok (CtxOK.cons ecost_ok (CtxOK.nil tyOK))
 refine FnOK.of_body Try.func17 (by kernel_rfl) rfl (C := (mkCtx tyL [(69, validDb_sp), (70, ecost_sp)])) hC.ty (by kernel_rfl) ?_
 intro (p : Pln) (stats : List Sta) hwf hpre E
 have hpre : (List.length stats : Int) ≤ 1048576 := hpre
 have hw_p : Wf ⟨(.named 2), (p : Pln)⟩ := hwf _ (List.Mem.head _)
 obtain ⟨hr_p_Kind, hr_p_Table, hl_p_Exprs, hl_p_Cols, hl_p_Kids⟩ := Pln.wfl hw_p
 have hw_stats : Wf ⟨(.slice (.named 3)), (stats : List Sta)⟩ := hwf _ (List.Mem.tail _ (List.Mem.head _))
 have hl_stats : ((List.length stats : Nat) : Int) ≤ 9223372036854775807 := hw_stats.len
 have e0 : EstimateCost p stats = EstimateCost p stats := rfl
 refine AW.seq (AW.r1 hC [1, 2] [8] ⟨[(1, sD11 stats), (2, .ref 8 1 0)], [(8, .box 1 [sI (Pln.Kind p), sI (Pln.Table p), sD9 (Pln.Exprs p), sD7 (Pln.Cols p), sD10 (Pln.Kids p)])]⟩ ?_)
 refine AW.seq (AW.seq (AW.r0 hC [1, 2, 8] [8] ⟨[(1, sD11 stats), (2, .ref 8 1 0), (8, sB (!(validDb (Pln.mk (Pln.Kind p) (Pln.Table p) (Pln.Exprs p) (Pln.Cols p) (Pln.Kids p)) stats)))], [(8, .box 1 [sI (Pln.Kind p), sI (Pln.Table p), sD9 (Pln.Exprs p), sD7 (Pln.Cols p), sD10 (Pln.Kids p)])]⟩ [((List.length stats : Int) ≤ 1048576)] ?_ ?_))
 ·
  refine ⟨?_, trivial⟩
  ·
   exact hpre
 refine AW.cd (!(validDb (Pln.mk (Pln.Kind p) (Pln.Table p) (Pln.Exprs p) (Pln.Cols p) (Pln.Kids p)) stats)) ?_ ?_
 ·
  intro h1
  have h1q := (Go.Am.not_pos h1)
  have e2 := e0.trans (Go.Am.bif_t h1)
  refine AW.seq (AW.r1 hC [4] [] ⟨[(4, sI (-1))], []⟩ ?_)
  exact AW.ret (AW.rI (-1) e2)
 ·
  intro h3
  have h3q := (Go.Am.not_neg h3)
  have e4 := e0.trans (Go.Am.bif_f h3)
  refine AW.kp [1, 2] [8] ⟨[(1, sD11 stats), (2, .ref 8 1 0)], [(8, .box 1 [sI (Pln.Kind p), sI (Pln.Table p), sD9 (Pln.Exprs p), sD7 (Pln.Cols p), sD10 (Pln.Kids p)])]⟩ ?_
  refine AW.skip (AW.seq (AW.r0 hC [4] [] ⟨[(4, sI (ecost (Pln.mk (Pln.Kind p) (Pln.Table p) (Pln.Exprs p) (Pln.Cols p) (Pln.Kids p)) stats))], []⟩ [(∃ l, PSt stats l (Pln.mk (Pln.Kind p) (Pln.Table p) (Pln.Exprs p) (Pln.Cols p) (Pln.Kids p)))] ?_ ?_))
  ·
   refine ⟨?_, trivial⟩
   ·
    have hd := validDb_iff.1 h3q
    exact ⟨8, PSt.mk' hd.1 hd.2⟩
  exact AW.ret (AW.rI (ecost (Pln.mk (Pln.Kind p) (Pln.Table p) (Pln.Exprs p) (Pln.Cols p) (Pln.Kids p)) stats) e4)

def iEstimateRows (p : Pln) (stats : List Sta) : Int := ((iestd (Pln.mk (Pln.Kind p) (Pln.Table p) (Pln.Exprs p) (Pln.Cols p) (Pln.Kids p)) stats).1)

def iEstimateRows_sp : FnSpec := mkSpec [.val (.named 2), .val (.slice (.named 3))] [.val (.int .i64)] (fun (p : Pln) (stats : List Sta) => True) (fun (p : Pln) (stats : List Sta) => [⟨(.int .i64), (iEstimateRows p stats)⟩])

theorem iEstimateRows_ok : FnOK Try.prog 42 iEstimateRows_sp := by
 have hC : CtxOK Try.prog (mkCtx tyL [(73, iestd_sp)]) := CtxOK.cons iestd_ok (CtxOK.nil tyOK)
 refine FnOK.of_body Try.func42 (by kernel_rfl) rfl (C := (mkCtx tyL [(73, iestd_sp)])) hC.ty (by kernel_rfl) ?_
 intro (p : Pln) (stats : List Sta) hwf hpre E
 have hpre : True := hpre
 have hw_p : Wf ⟨(.named 2), (p : Pln)⟩ := hwf _ (List.Mem.head _)
 obtain ⟨hr_p_Kind, hr_p_Table, hl_p_Exprs, hl_p_Cols, hl_p_Kids⟩ := Pln.wfl hw_p
 have hw_stats : Wf ⟨(.slice (.named 3)), (stats : List Sta)⟩ := hwf _ (List.Mem.tail _ (List.Mem.head _))
 have hl_stats : ((List.length stats : Nat) : Int) ≤ 9223372036854775807 := hw_stats.len
 have e0 : iEstimateRows p stats = iEstimateRows p stats := rfl
 refine AW.seq (AW.r1 hC [1, 2] [8] ⟨[(1, sD11 stats), (2, .ref 8 1 0)], [(8, .box 1 [sI (Pln.Kind p), sI (Pln.Table p), sD9 (Pln.Exprs p), sD7 (Pln.Cols p), sD10 (Pln.Kids p)])]⟩ ?_)
 refine AW.seq (AW.r0 hC [5] [] ⟨[(5, sI ((iestd (Pln.mk (Pln.Kind p) (Pln.Table p) (Pln.Exprs p) (Pln.Cols p) (Pln.Kids p)) stats).1))], []⟩ [(True)] ?_ ?_)
 ·
  refine ⟨?_, trivial⟩
  ·
   trivial
 refine AW.seq (AW.r1 hC [4] [] ⟨[(4, sI ((iestd (Pln.mk (Pln.Kind p) (Pln.Table p) (Pln.Exprs p) (Pln.Cols p) (Pln.Kids p)) stats).1))], []⟩ ?_)
 exact AW.ret (AW.rI ((iestd (Pln.mk (Pln.Kind p) (Pln.Table p) (Pln.Exprs p) (Pln.Cols p) (Pln.Kids p)) stats).1) e0)

def iEstimateCost (p : Pln) (stats : List Sta) : Int := ((iestd (Pln.mk (Pln.Kind p) (Pln.Table p) (Pln.Exprs p) (Pln.Cols p) (Pln.Kids p)) stats).2)

def iEstimateCost_sp : FnSpec := mkSpec [.val (.named 2), .val (.slice (.named 3))] [.val (.int .i64)] (fun (p : Pln) (stats : List Sta) => True) (fun (p : Pln) (stats : List Sta) => [⟨(.int .i64), (iEstimateCost p stats)⟩])

theorem iEstimateCost_ok : FnOK Try.prog 20 iEstimateCost_sp := by
 have hC : CtxOK Try.prog (mkCtx tyL [(73, iestd_sp)]) := CtxOK.cons iestd_ok (CtxOK.nil tyOK)
 refine FnOK.of_body Try.func20 (by kernel_rfl) rfl (C := (mkCtx tyL [(73, iestd_sp)])) hC.ty (by kernel_rfl) ?_
 intro (p : Pln) (stats : List Sta) hwf hpre E
 have hpre : True := hpre
 have hw_p : Wf ⟨(.named 2), (p : Pln)⟩ := hwf _ (List.Mem.head _)
 obtain ⟨hr_p_Kind, hr_p_Table, hl_p_Exprs, hl_p_Cols, hl_p_Kids⟩ := Pln.wfl hw_p
 have hw_stats : Wf ⟨(.slice (.named 3)), (stats : List Sta)⟩ := hwf _ (List.Mem.tail _ (List.Mem.head _))
 have hl_stats : ((List.length stats : Nat) : Int) ≤ 9223372036854775807 := hw_stats.len
 have e0 : iEstimateCost p stats = iEstimateCost p stats := rfl
 refine AW.seq (AW.r1 hC [1, 2] [8] ⟨[(1, sD11 stats), (2, .ref 8 1 0)], [(8, .box 1 [sI (Pln.Kind p), sI (Pln.Table p), sD9 (Pln.Exprs p), sD7 (Pln.Cols p), sD10 (Pln.Kids p)])]⟩ ?_)
 refine AW.seq (AW.r0 hC [6] [] ⟨[(6, sI ((iestd (Pln.mk (Pln.Kind p) (Pln.Table p) (Pln.Exprs p) (Pln.Cols p) (Pln.Kids p)) stats).2))], []⟩ [(True)] ?_ ?_)
 ·
  refine ⟨?_, trivial⟩
  ·
   trivial
 refine AW.seq (AW.r1 hC [4] [] ⟨[(4, sI ((iestd (Pln.mk (Pln.Kind p) (Pln.Table p) (Pln.Exprs p) (Pln.Cols p) (Pln.Kids p)) stats).2))], []⟩ ?_)
 exact AW.ret (AW.rI ((iestd (Pln.mk (Pln.Kind p) (Pln.Table p) (Pln.Exprs p) (Pln.Cols p) (Pln.Kids p)) stats).2) e0)

end
end Go.Proofs.Ytodcdgolcbdkgaa
