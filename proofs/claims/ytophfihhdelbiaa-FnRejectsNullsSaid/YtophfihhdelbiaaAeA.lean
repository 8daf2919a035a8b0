/-
  A part of the proof of this claim (AeA): what functions of the program compute, and plain facts of that. No conditions.
-/
import Derived.Test.YtophfihhdelbiaaAe9
set_option linter.all false
namespace Go.Proofs.Ytophfihhdelbiaa
open Go Go.Am
noncomputable section

def nullStates_l1 (nulls : List Int) (i : Nat) : Nat → Nat → Nat → Nat
 | 0, s, k1 => s
 | k + 1, s, k1 => (bif (decide (((k1 : Nat) : Int) < ((List.length nulls : Nat) : Int))) then (bif ((List.getD nulls k1 0) == ((i : Nat) : Int)) then (nullStates_l1 nulls i k 4 (k1 + 1)) else (nullStates_l1 nulls i k s (k1 + 1))) else s)

def nullStates_l0 (width : Int) (nulls : List Int) : Nat → Nat → (List Int) → (List Int)
 | 0, i, out => out
 | k + 1, i, out => (bif (decide (((i : Nat) : Int) < width)) then (Go.Am.andThen (nullStates_l1 nulls i ((List.length nulls) - 0 + 1) 7 0) (fun z => (fun (s : Nat) => (nullStates_l0 width nulls k (i + 1) (out ++ ([((s : Nat) : Int)] : List Int)))) z)) else out)

def nullStates (width : Int) (nulls : List Int) : (List Int) := (Go.Am.andThen (nullStates_l0 width nulls (Int.toNat (width - ((0 : Nat) : Int)) + 1) 0 ([] : List Int)) (fun z => (fun (out : List Int) => out) z))

def nullStates_sp : FnSpec := mkSpec [.val (.int .i64), .val (.slice (.int .i64))] [.own (.int .i64)] (fun (width : Int) (nulls : List Int) => 1 ≤ width ∧ width ≤ 6) (fun (width : Int) (nulls : List Int) => [⟨(.slice (.int .i64)), (nullStates width nulls)⟩])

theorem nullStates_ok : FnOK Try.prog 45 nullStates_sp := by
 have hC : CtxOK Try.prog (mkCtx tyL []) := CtxOK.nil tyOK
 refine FnOK.of_body Try.func45 (by kernel_rfl) rfl (C := (mkCtx tyL [])) hC.ty (by kernel_rfl) ?_
 intro (width : Int) (nulls : List Int) hwf hpre E
 have hpre : 1 ≤ width ∧ width ≤ 6 := hpre
 have hw_width : Wf ⟨(.int .i64), (width : Int)⟩ := hwf _ (List.Mem.head _)
 have hr_width : -9223372036854775808 ≤ width ∧ width ≤ 9223372036854775807 := hw_width.int_inv
 have hw_nulls : Wf ⟨(.slice (.int .i64)), (nulls : List Int)⟩ := hwf _ (List.Mem.tail _ (List.Mem.head _))
 have hl_nulls : ((List.length nulls : Nat) : Int) ≤ 9223372036854775807 := hw_nulls.len
 have e0 : nullStates width nulls = nullStates width nulls := rfl
 refine AW.seq (AW.r1 hC [0, 1] [] ⟨[(0, sI width), (1, sD6 nulls)], []⟩ ?_)
 refine AW.seq (AW.r1 hC [0, 1, 5] [36] ⟨[(0, sI width), (1, sD6 nulls), (5, .arr 36 1)], [(36, .arr 1 (.int .i64) (([] : List Int) : List Int))]⟩ ?_)
 refine AW.seq (AW.seq (AW.r1 hC [0, 1, 5, 6] [36] ⟨[(0, sI width), (1, sD6 nulls), (5, .arr 36 1), (6, sI 0)], [(36, .arr 1 (.int .i64) (([] : List Int) : List Int))]⟩ ?_))
 refine AW.cutQ (α := (List Int)) (fun x => ⟨[(5, .arr 36 1)], [(36, .arr 1 (.int .i64) (x : List Int))]⟩) (fun x => (True) ∧ (nullStates_l0 width nulls (Int.toNat (width - ((0 : Nat) : Int)) + 1) 0 ([] : List Int)) = x) ?_ ?_
 ·
  skip
  refine AW.block (AW.loop (α := Nat × (List Int)) (fun x => ⟨[(0, sI width), (1, sD6 nulls), (5, .arr 36 1), (6, sI ((x.1 : Nat) : Int))], [(36, .arr 1 (.int .i64) (x.2 : List Int))]⟩) (fun x => ((List.length x.2 : Int) = x.1) ∧ ∃ k, Int.toNat (width - ((x.1 : Nat) : Int)) < k ∧ (nullStates_l0 width nulls (Int.toNat (width - ((0 : Nat) : Int)) + 1) 0 ([] : List Int)) = nullStates_l0 width nulls k x.1 x.2) (fun x => Int.toNat (width - ((x.1 : Nat) : Int))) (0, ([] : List Int)) (by kernel_rfl) ⟨?_, _, Nat.lt_succ_self _, rfl⟩ ?_)
  ·
   show (List.length ([] : List Int) : Int) = 0
   first | exact trivial | (refine ⟨?_, ?_⟩ <;> first | omega | simp) | omega | simp
  ·
   intro x hR
   obtain ⟨i, out⟩ := x
   obtain ⟨hI0, k126, hk124, e125⟩ := hR
   replace hI0 : (List.length out : Int) = i := hI0
   replace hk124 : Int.toNat (width - ((i : Nat) : Int)) < k126 := hk124
   obtain ⟨k126q, rfl⟩ : ∃ k, k126 = k + 1 := ⟨k126 - 1, by omega⟩
   refine AW.seq (AW.seq (AW.r1 hC [0, 1, 5, 6, 12] [36] ⟨[(0, sI width), (1, sD6 nulls), (5, .arr 36 1), (6, sI ((i : Nat) : Int)), (12, sB (decide (((i : Nat) : Int) < width)))], [(36, .arr 1 (.int .i64) (out : List Int))]⟩ ?_))
   refine AW.cd (decide (((i : Nat) : Int) < width)) ?_ ?_
   ·
    intro h127
    have h127q := (of_decide_eq_true h127)
    have e128 := e125.trans (Go.Am.bif_t h127)
    refine AW.kp [0, 1, 5, 6] [36] ⟨[(0, sI width), (1, sD6 nulls), (5, .arr 36 1), (6, sI ((i : Nat) : Int))], [(36, .arr 1 (.int .i64) (out : List Int))]⟩ ?_
    refine AW.skip (AW.seq (AW.block (AW.seq (AW.r1 hC [0, 1, 5, 6, 7] [36] ⟨[(0, sI width), (1, sD6 nulls), (5, .arr 36 1), (6, sI ((i : Nat) : Int)), (7, sI 7)], [(36, .arr 1 (.int .i64) (out : List Int))]⟩ ?_))))
    refine AW.seq (AW.seq (AW.r1 hC [0, 1, 5, 6, 7, 8] [36] ⟨[(0, sI width), (1, sD6 nulls), (5, .arr 36 1), (6, sI ((i : Nat) : Int)), (7, sI 7), (8, sI 0)], [(36, .arr 1 (.int .i64) (out : List Int))]⟩ ?_))
    refine AW.cutQ (α := Nat) (fun x => ⟨[(0, sI width), (1, sD6 nulls), (5, .arr 36 1), (6, sI ((i : Nat) : Int)), (7, sI ((x : Nat) : Int))], [(36, .arr 1 (.int .i64) (out : List Int))]⟩) (fun x => (True) ∧ (nullStates_l1 nulls i ((List.length nulls) - 0 + 1) 7 0) = x) ?_ ?_
    ·
     skip
     refine AW.block (AW.loop (α := Nat × Nat) (fun x => ⟨[(0, sI width), (1, sD6 nulls), (5, .arr 36 1), (6, sI ((i : Nat) : Int)), (7, sI ((x.1 : Nat) : Int)), (8, sI ((x.2 : Nat) : Int))], [(36, .arr 1 (.int .i64) (out : List Int))]⟩) (fun x => (True) ∧ ∃ k, (List.length nulls) - x.2 < k ∧ (nullStates_l1 nulls i ((List.length nulls) - 0 + 1) 7 0) = nullStates_l1 nulls i k x.1 x.2) (fun x => (List.length nulls) - x.2) (7, 0) (by kernel_rfl) ⟨?_, _, Nat.lt_succ_self _, rfl⟩ ?_)
     ·
      show True
      first | exact trivial | (refine ⟨?_, ?_⟩ <;> first | omega | simp) | omega | simp
     ·
      intro x hR
      obtain ⟨s, k1⟩ := x
      obtain ⟨hI1, k155, hk153, e154⟩ := hR
      replace hI1 : True := hI1
      replace hk153 : (List.length nulls) - k1 < k155 := hk153
      obtain ⟨k155q, rfl⟩ : ∃ k, k155 = k + 1 := ⟨k155 - 1, by omega⟩
      refine AW.seq (AW.seq (AW.r1 hC [0, 1, 5, 6, 7, 8, 18] [36] ⟨[(0, sI width), (1, sD6 nulls), (5, .arr 36 1), (6, sI ((i : Nat) : Int)), (7, sI ((s : Nat) : Int)), (8, sI ((k1 : Nat) : Int)), (18, sB (decide (((k1 : Nat) : Int) < ((List.length nulls : Nat) : Int))))], [(36, .arr 1 (.int .i64) (out : List Int))]⟩ ?_))
      refine AW.cd (decide (((k1 : Nat) : Int) < ((List.length nulls : Nat) : Int))) ?_ ?_
      ·
       intro h156
       have h156q := (of_decide_eq_true h156)
       have e157 := e154.trans (Go.Am.bif_t h156)
       refine AW.kp [0, 1, 5, 6, 7, 8] [36] ⟨[(0, sI width), (1, sD6 nulls), (5, .arr 36 1), (6, sI ((i : Nat) : Int)), (7, sI ((s : Nat) : Int)), (8, sI ((k1 : Nat) : Int))], [(36, .arr 1 (.int .i64) (out : List Int))]⟩ ?_
       refine AW.skip (AW.seq (AW.block (AW.seq (AW.r0 hC [0, 1, 5, 6, 7, 8, 26] [36] ⟨[(0, sI width), (1, sD6 nulls), (5, .arr 36 1), (6, sI ((i : Nat) : Int)), (7, sI ((s : Nat) : Int)), (8, sI ((k1 : Nat) : Int)), (26, sB ((List.getD nulls k1 0) == ((i : Nat) : Int)))], [(36, .arr 1 (.int .i64) (out : List Int))]⟩ [IX ((k1 : Nat) : Int) ((List.length nulls : Nat) : Int)] ?_ ?_))))
       ·
        refine ⟨?_, trivial⟩
        ·
         refine IX.of ?_
         first | omega | (simp only [List.length_append, List.length_cons, List.length_nil] at *; omega)
       refine AW.cd ((List.getD nulls k1 0) == ((i : Nat) : Int)) ?_ ?_
       ·
        intro h158
        have h158q := (Go.Am.beq_pos h158)
        have e159 := e157.trans (Go.Am.bif_t h158)
        refine AW.r1 hC [0, 1, 5, 6, 7, 8] [36] ⟨[(0, sI width), (1, sD6 nulls), (5, .arr 36 1), (6, sI ((i : Nat) : Int)), (7, sI 4), (8, sI ((k1 : Nat) : Int))], [(36, .arr 1 (.int .i64) (out : List Int))]⟩ ?_
        refine AW.r0 hC [0, 1, 5, 6, 7, 8] [36] ⟨[(0, sI width), (1, sD6 nulls), (5, .arr 36 1), (6, sI ((i : Nat) : Int)), (7, sI 4), (8, sI ((k1 + 1 : Nat) : Int))], [(36, .arr 1 (.int .i64) (out : List Int))]⟩ [R64 ((k1 + 1 : Nat) : Int)] ?_ ?_
        ·
         refine ⟨?_, trivial⟩
         ·
          refine R64.of ?_
          first | omega | (simp only [List.length_append, List.length_cons, List.length_nil] at *; omega)
        refine AW.back (x := (s, k1)) (4, k1 + 1) (by kernel_rfl) ⟨?_, k155q, ?_, e159⟩ ?_
        ·
         show True
         first | assumption | exact trivial | (refine ⟨?_, ?_⟩ <;> first | omega | (simp only [lens] at *; omega)) | omega | (simp only [lens] at *; omega)
        ·
         show (List.length nulls) - (k1 + 1) < k155q
         first | omega | (simp only [lens]; omega)
        ·
         show (List.length nulls) - (k1 + 1) < (List.length nulls) - k1
         first | omega | (simp only [lens]; omega)
       ·
        intro h160
        have h160q := (Go.Am.beq_neg h160)
        have e161 := e157.trans (Go.Am.bif_f h160)
        refine AW.kp [0, 1, 5, 6, 7, 8] [36] ⟨[(0, sI width), (1, sD6 nulls), (5, .arr 36 1), (6, sI ((i : Nat) : Int)), (7, sI ((s : Nat) : Int)), (8, sI ((k1 : Nat) : Int))], [(36, .arr 1 (.int .i64) (out : List Int))]⟩ ?_
        refine AW.skip (AW.r0 hC [0, 1, 5, 6, 7, 8] [36] ⟨[(0, sI width), (1, sD6 nulls), (5, .arr 36 1), (6, sI ((i : Nat) : Int)), (7, sI ((s : Nat) : Int)), (8, sI ((k1 + 1 : Nat) : Int))], [(36, .arr 1 (.int .i64) (out : List Int))]⟩ [R64 ((k1 + 1 : Nat) : Int)] ?_ ?_)
        ·
         refine ⟨?_, trivial⟩
         ·
          refine R64.of ?_
          first | omega | (simp only [List.length_append, List.length_cons, List.length_nil] at *; omega)
        refine AW.back (x := (s, k1)) (s, k1 + 1) (by kernel_rfl) ⟨?_, k155q, ?_, e161⟩ ?_
        ·
         show True
         first | assumption | exact trivial | (refine ⟨?_, ?_⟩ <;> first | omega | (simp only [lens] at *; omega)) | omega | (simp only [lens] at *; omega)
        ·
         show (List.length nulls) - (k1 + 1) < k155q
         first | omega | (simp only [lens]; omega)
        ·
         show (List.length nulls) - (k1 + 1) < (List.length nulls) - k1
         first | omega | (simp only [lens]; omega)
      ·
       intro h162
       have h162q := (of_decide_eq_false h162)
       have e163 := e154.trans (Go.Am.bif_f h162)
       refine AW.kp [0, 1, 5, 6, 7] [36] ⟨[(0, sI width), (1, sD6 nulls), (5, .arr 36 1), (6, sI ((i : Nat) : Int)), (7, sI ((s : Nat) : Int))], [(36, .arr 1 (.int .i64) (out : List Int))]⟩ ?_
       refine AW.exit ?_
       refine AW.meet s (by kernel_rfl) ⟨?_, e163⟩
       show True
       first | assumption | exact trivial | omega
    ·
     intro s hR
     obtain ⟨hJ1, e164⟩ := hR
     replace hJ1 : True := hJ1
     have e165 := e128.trans (Go.Am.then_eq e164)
     refine AW.r0 hC [0, 1, 5, 6] [36] ⟨[(0, sI width), (1, sD6 nulls), (5, .arr 36 1), (6, sI ((i : Nat) : Int))], [(36, .arr 1 (.int .i64) ((out ++ ([((s : Nat) : Int)] : List Int)) : List Int))]⟩ [(((List.length out : Nat) : Int) + ((List.length ([((s : Nat) : Int)] : List Int) : Nat) : Int) ≤ 4294967296)] ?_ ?_
     ·
      refine ⟨?_, trivial⟩
      ·
       first | omega | (simp only [List.length_append, List.length_cons, List.length_nil] at *; omega)
     refine AW.r0 hC [0, 1, 5, 6] [36] ⟨[(0, sI width), (1, sD6 nulls), (5, .arr 36 1), (6, sI ((i + 1 : Nat) : Int))], [(36, .arr 1 (.int .i64) ((out ++ ([((s : Nat) : Int)] : List Int)) : List Int))]⟩ [R64 ((i + 1 : Nat) : Int)] ?_ ?_
     ·
      refine ⟨?_, trivial⟩
      ·
       refine R64.of ?_
       first | omega | (simp only [List.length_append, List.length_cons, List.length_nil] at *; omega)
     refine AW.back (x := (i, out)) (i + 1, (out ++ ([((s : Nat) : Int)] : List Int))) (by kernel_rfl) ⟨?_, k126q, ?_, e165⟩ ?_
     ·
      show (List.length (out ++ ([((s : Nat) : Int)] : List Int)) : Int) = (i + 1)
      first | assumption | exact trivial | (refine ⟨?_, ?_⟩ <;> first | omega | (simp only [lens] at *; omega)) | omega | (simp only [lens] at *; omega)
     ·
      show Int.toNat (width - (((i + 1) : Nat) : Int)) < k126q
      first | omega | (simp only [lens]; omega)
     ·
      show Int.toNat (width - (((i + 1) : Nat) : Int)) < Int.toNat (width - ((i : Nat) : Int))
      first | omega | (simp only [lens]; omega)
   ·
    intro h166
    have h166q := (of_decide_eq_false h166)
    have e167 := e125.trans (Go.Am.bif_f h166)
    refine AW.kp [5] [36] ⟨[(5, .arr 36 1)], [(36, .arr 1 (.int .i64) (out : List Int))]⟩ ?_
    refine AW.exit ?_
    refine AW.meet out (by kernel_rfl) ⟨?_, e167⟩
    show True
    first | assumption | exact trivial | omega
 ·
  intro out hR
  obtain ⟨hJ0, e168⟩ := hR
  replace hJ0 : True := hJ0
  have e169 := e0.trans (Go.Am.then_eq e168)
  refine AW.seq (AW.r1 hC [4] [36] ⟨[(4, .arr 36 1)], [(36, .arr 1 (.int .i64) (out : List Int))]⟩ ?_)
  exact AW.ret (AW.retE (β := (List Int)) (fun v => [⟨(.slice (.int .i64)), v⟩]) (fun v => []) (v := out) e169 (by kernel_rfl) rfl rfl)

def nst (w : Nat) (nulls : List Int) : List Int := (List.range w).map fun j => if ((j : Nat) : Int) ∈ nulls then 4 else 7

theorem nst_length (w : Nat) (nulls : List Int) : (nst w nulls).length = w := by simp [nst]

theorem nst_getD {w : Nat} (nulls : List Int) {j : Nat} (h : j < w) : (nst w nulls).getD j 0 = if ((j : Nat) : Int) ∈ nulls then 4 else 7 := by
 simp [nst, h]

theorem nst_VS (w : Nat) (nulls : List Int) : VS (nst w nulls) := by
 intro j hj
 rw [nst_length] at hj
 rw [nst_getD nulls hj]
 split <;> omega

theorem nst_VX {w : Int} {nulls : List Int} {e : Xpr} (h1 : 1 ≤ w ∧ w ≤ 6) (h2 : VE w 8 e) : VX (nst w.toNat nulls) e := by
 refine ⟨nst_VS _ _, 8, ?_⟩
 rw [nst_length, show ((w.toNat : Nat) : Int) = w by omega]
 exact h2

theorem drop_getD {l : List Int} {k : Nat} (h : k < l.length) : l.drop k = l.getD k 0 :: l.drop (k + 1) := by
 rw [List.drop_eq_getElem_cons h]
 simp [h]

theorem nullStates_l1_eq (nulls : List Int) (i : Nat) : ∀ (k s k1 : Nat), nulls.length - k1 < k → nullStates_l1 nulls i k s k1 = if ((i : Nat) : Int) ∈ nulls.drop k1 then 4 else s := by
 intro k
 induction k with
 | zero => intro s k1 h; omega
 | succ k ih =>
  intro s k1 h
  unfold nullStates_l1
  by_cases hk : k1 < nulls.length
  ·
   rw [lt_dec hk, cond_true, drop_getD hk]
   by_cases he : List.getD nulls k1 0 = ((i : Nat) : Int)
   ·
    rw [beq_iff_eq.2 he, cond_true, ih _ _ (by omega), he, if_pos (List.mem_cons_self ..)]
    split <;> rfl
   ·
    rw [show (List.getD nulls k1 0 == ((i : Nat) : Int)) = false from beq_false_of_ne he, cond_false, ih _ _ (by omega)]
    have : ¬ ((i : Nat) : Int) = List.getD nulls k1 0 := fun h => he h.symm
    by_cases hm : ((i : Nat) : Int) ∈ nulls.drop (k1 + 1)
    ·
     rw [if_pos hm, if_pos (List.mem_cons_of_mem _ hm)]
    ·
     rw [if_neg hm, if_neg (by rw [List.mem_cons]; rintro (h | h); exact this h; exact hm h)]
  ·
   rw [ge_dec hk, cond_false, List.drop_eq_nil_of_le (by omega)]
   simp

theorem nullStates_l0_eq (w : Nat) (nulls : List Int) : ∀ (k i : Nat) (out : List Int), w - i < k → i ≤ w → out = nst i nulls → nullStates_l0 (w : Int) nulls k i out = nst w nulls := by
 intro k
 induction k with
 | zero => intro i out h; omega
 | succ k ih =>
  intro i out h hi ho
  unfold nullStates_l0
  by_cases hk : i < w
  ·
   rw [lt_dec hk, cond_true]
   simp only [Go.Am.andThen]
   refine ih _ _ (by omega) (by omega) ?_
   rw [nullStates_l1_eq _ _ _ _ _ (by omega), ho]
   simp only [nst, List.range_succ, List.map_append, List.map_cons, List.map_nil, List.drop_zero]
   congr 2
   split <;> rfl
  ·
   rw [ge_dec hk, cond_false]
   rw [ho, show i = w by omega]

theorem nullStates_eq {w : Int} (nulls : List Int) (h : 1 ≤ w ∧ w ≤ 6) : nullStates w nulls = nst w.toNat nulls := by
 obtain ⟨n, rfl⟩ := Int.eq_ofNat_of_zero_le (show 0 ≤ w by omega)
 unfold nullStates
 simp only [Go.Am.andThen]
 exact nullStates_l0_eq n nulls _ 0 [] (by omega) (by omega) rfl

def rejects (e : Xpr) (width : Int) (nulls : List Int) : Bool := ((bits .and .i64 (outcomes (Xpr.mk (Xpr.Kind e) (Xpr.Col e) (Xpr.V e) (Xpr.Kids e)) (nullStates width nulls)) 2) == 0)

def rejects_sp : FnSpec := mkSpec [.val (.named 1), .val (.int .i64), .val (.slice (.int .i64))] [.val .bool] (fun (e : Xpr) (width : Int) (nulls : List Int) => (1 ≤ width ∧ width ≤ 6) ∧ VE width 8 e) (fun (e : Xpr) (width : Int) (nulls : List Int) => [⟨.bool, (rejects e width nulls)⟩])

theorem rejects_ok : FnOK Try.prog 28 rejects_sp := by
 have hC : CtxOK Try.prog (mkCtx tyL [(24, outcomes_sp), (45, nullStates_sp)]) := CtxOK.cons outcomes_ok (CtxOK.cons nullStates_ok (CtxOK.nil tyOK))
 have hM : Try.prog.follows .mixedOrders = true := Try.checked.mixed
 refine FnOK.of_body Try.func28 (by kernel_rfl) rfl (C := (mkCtx tyL [(24, outcomes_sp), (45, nullStates_sp)])) hC.ty (by kernel_rfl) ?_
 intro (e : Xpr) (width : Int) (nulls : List Int) hwf hpre E
 have hpre : (1 ≤ width ∧ width ≤ 6) ∧ VE width 8 e := hpre
 have hw_e : Wf ⟨(.named 1), (e : Xpr)⟩ := hwf _ (List.Mem.head _)
 obtain ⟨hr_e_Kind, hr_e_Col, hl_e_Kids⟩ := Xpr.wfl hw_e
 have hw_width : Wf ⟨(.int .i64), (width : Int)⟩ := hwf _ (List.Mem.tail _ (List.Mem.head _))
 have hr_width : -9223372036854775808 ≤ width ∧ width ≤ 9223372036854775807 := hw_width.int_inv
 have hw_nulls : Wf ⟨(.slice (.int .i64)), (nulls : List Int)⟩ := hwf _ (List.Mem.tail _ (List.Mem.tail _ (List.Mem.head _)))
 have hl_nulls : ((List.length nulls : Nat) : Int) ≤ 9223372036854775807 := hw_nulls.len
 have e0 : rejects e width nulls = rejects e width nulls := rfl
 refine AW.seq (AW.r1 hC [1, 2, 3] [12] ⟨[(1, sI width), (2, sD6 nulls), (3, .ref 12 1 0)], [(12, .box 1 [sI (Xpr.Kind e), sI (Xpr.Col e), sB (Val.Null (Xpr.V e)), sI (Val.N (Xpr.V e)), sD9 (Xpr.Kids e)])]⟩ ?_)
 refine AW.seq (AW.d0 hC hM [6] [] ⟨[(6, sB ((bits .and .i64 (outcomes (Xpr.mk (Xpr.Kind e) (Xpr.Col e) (Xpr.V e) (Xpr.Kids e)) (nullStates width nulls)) 2) == 0))], []⟩ [(1 ≤ width ∧ width ≤ 6), (VX (nullStates width nulls) (Xpr.mk (Xpr.Kind e) (Xpr.Col e) (Xpr.V e) (Xpr.Kids e)))] ?_ ?_)
 ·
  refine ⟨?_, ?_, trivial⟩
  ·
   exact hpre.1
  ·
   rw [nullStates_eq _ hpre.1, Xpr.eta]
   exact nst_VX hpre.1 hpre.2
 exact AW.ret (AW.rB ((bits .and .i64 (outcomes (Xpr.mk (Xpr.Kind e) (Xpr.Col e) (Xpr.V e) (Xpr.Kids e)) (nullStates width nulls)) 2) == 0) e0)

def RejectsNulls (e : Xpr) (width : Int) (nulls : List Int) : Bool := (bif (ValidExpr (Xpr.mk (Xpr.Kind e) (Xpr.Col e) (Xpr.V e) (Xpr.Kids e)) width) then (rejects (Xpr.mk (Xpr.Kind e) (Xpr.Col e) (Xpr.V e) (Xpr.Kids e)) width nulls) else false)

def RejectsNulls_sp : FnSpec := mkSpec [.val (.named 1), .val (.int .i64), .val (.slice (.int .i64))] [.val .bool] (fun (e : Xpr) (width : Int) (nulls : List Int) => True) (fun (e : Xpr) (width : Int) (nulls : List Int) => [⟨.bool, (RejectsNulls e width nulls)⟩])

theorem RejectsNulls_ok : FnOK Try.prog 13 RejectsNulls_sp := by
 have hC : CtxOK Try.prog (mkCtx tyL [(23, ValidExpr_sp), (28, rejects_sp)]) := CtxOK.cons ValidExpr_ok (CtxOK.cons rejects_ok (CtxOK.nil tyOK))
 refine FnOK.of_body Try.func13 (by kernel_rfl) rfl (C := (mkCtx tyL [(23, ValidExpr_sp), (28, rejects_sp)])) hC.ty (by kernel_rfl) ?_
 intro (e : Xpr) (width : Int) (nulls : List Int) hwf hpre E
 have hpre : True := hpre
 have hw_e : Wf ⟨(.named 1), (e : Xpr)⟩ := hwf _ (List.Mem.head _)
 obtain ⟨hr_e_Kind, hr_e_Col, hl_e_Kids⟩ := Xpr.wfl hw_e
 have hw_width : Wf ⟨(.int .i64), (width : Int)⟩ := hwf _ (List.Mem.tail _ (List.Mem.head _))
 have hr_width : -9223372036854775808 ≤ width ∧ width ≤ 9223372036854775807 := hw_width.int_inv
 have hw_nulls : Wf ⟨(.slice (.int .i64)), (nulls : List Int)⟩ := hwf _ (List.Mem.tail _ (List.Mem.tail _ (List.Mem.head _)))
 have hl_nulls : ((List.length nulls : Nat) : Int) ≤ 9223372036854775807 := hw_nulls.len
 have e0 : RejectsNulls e width nulls = RejectsNulls e width nulls := rfl
 refine AW.seq (AW.r1 hC [1, 2, 3] [12] ⟨[(1, sI width), (2, sD6 nulls), (3, .ref 12 1 0)], [(12, .box 1 [sI (Xpr.Kind e), sI (Xpr.Col e), sB (Val.Null (Xpr.V e)), sI (Val.N (Xpr.V e)), sD9 (Xpr.Kids e)])]⟩ ?_)
 refine AW.seq (AW.r0 hC [6] [] ⟨[(6, sB (bif (ValidExpr (Xpr.mk (Xpr.Kind e) (Xpr.Col e) (Xpr.V e) (Xpr.Kids e)) width) then (rejects (Xpr.mk (Xpr.Kind e) (Xpr.Col e) (Xpr.V e) (Xpr.Kids e)) width nulls) else false))], []⟩ [(True), (((ValidExpr (Xpr.mk (Xpr.Kind e) (Xpr.Col e) (Xpr.V e) (Xpr.Kids e)) width) = true) → (((ValidExpr (Xpr.mk (Xpr.Kind e) (Xpr.Col e) (Xpr.V e) (Xpr.Kids e)) width) = true))), (((ValidExpr (Xpr.mk (Xpr.Kind e) (Xpr.Col e) (Xpr.V e) (Xpr.Kids e)) width) = true) → (((ValidExpr (Xpr.mk (Xpr.Kind e) (Xpr.Col e) (Xpr.V e) (Xpr.Kids e)) width) = true))), (((ValidExpr (Xpr.mk (Xpr.Kind e) (Xpr.Col e) (Xpr.V e) (Xpr.Kids e)) width) = true) → (((ValidExpr (Xpr.mk (Xpr.Kind e) (Xpr.Col e) (Xpr.V e) (Xpr.Kids e)) width) = true))), (((ValidExpr (Xpr.mk (Xpr.Kind e) (Xpr.Col e) (Xpr.V e) (Xpr.Kids e)) width) = true) → ((1 ≤ width ∧ width ≤ 6) ∧ VE width 8 (Xpr.mk (Xpr.Kind e) (Xpr.Col e) (Xpr.V e) (Xpr.Kids e)))), (((ValidExpr (Xpr.mk (Xpr.Kind e) (Xpr.Col e) (Xpr.V e) (Xpr.Kids e)) width) = true) → (((ValidExpr (Xpr.mk (Xpr.Kind e) (Xpr.Col e) (Xpr.V e) (Xpr.Kids e)) width) = true)))] ?_ ?_)
 ·
  refine ⟨?_, ?_, ?_, ?_, ?_, ?_, trivial⟩
  ·
   trivial
  ·
   intro g1
   have g1p0 : (ValidExpr (Xpr.mk (Xpr.Kind e) (Xpr.Col e) (Xpr.V e) (Xpr.Kids e)) width) = true := g1
   first | assumption | exact ⟨by assumption, by assumption⟩
  ·
   intro g2
   have g2p0 : (ValidExpr (Xpr.mk (Xpr.Kind e) (Xpr.Col e) (Xpr.V e) (Xpr.Kids e)) width) = true := g2
   first | assumption | exact ⟨by assumption, by assumption⟩
  ·
   intro g3
   have g3p0 : (ValidExpr (Xpr.mk (Xpr.Kind e) (Xpr.Col e) (Xpr.V e) (Xpr.Kids e)) width) = true := g3
   first | assumption | exact ⟨by assumption, by assumption⟩
  ·
   intro g4
   have g4p0 : (ValidExpr (Xpr.mk (Xpr.Kind e) (Xpr.Col e) (Xpr.V e) (Xpr.Kids e)) width) = true := g4
   exact ValidExpr_iff.1 g4p0
  ·
   intro g5
   have g5p0 : (ValidExpr (Xpr.mk (Xpr.Kind e) (Xpr.Col e) (Xpr.V e) (Xpr.Kids e)) width) = true := g5
   first | assumption | exact ⟨by assumption, by assumption⟩
 exact AW.ret (AW.rB (bif (ValidExpr (Xpr.mk (Xpr.Kind e) (Xpr.Col e) (Xpr.V e) (Xpr.Kids e)) width) then (rejects (Xpr.mk (Xpr.Kind e) (Xpr.Col e) (Xpr.V e) (Xpr.Kids e)) width nulls) else false) e0)

theorem inv7 {st : List Int} {i : Nat} {w : Int} (h : (List.length st : Int) = w ∧ ∀ j, j < i → List.getD st j 0 = 7) (hi : i < st.length) :
  (List.length (List.set st i 7) : Int) = w ∧ ∀ j, j < i + 1 → List.getD (List.set st i 7) j 0 = 7 := by
 refine ⟨by rw [List.length_set]; exact h.1, fun j hj => ?_⟩
 rw [getD_set_int _ _ _ _ (by omega)]
 split
 ·
  rfl
 ·
  exact h.2 j (by omega)

theorem inv4 {st : List Int} {i : Nat} {w : Int} (h : (List.length st : Int) = w ∧ VS st) : (List.length (List.set st i 4) : Int) = w ∧ VS (List.set st i 4) := by
 refine ⟨by rw [List.length_set]; exact h.1, fun j hj => ?_⟩
 rw [List.length_set] at hj
 rw [getD_set_int _ _ _ _ hj]
 split
 ·
  omega
 ·
  exact h.2 j hj

def iRejectsNulls_l0 (width : Int) : Nat → Nat → (List Int) → (List Int)
 | 0, v19, states => states
 | k + 1, v19, states => (bif (decide (((v19 : Nat) : Int) < ((List.length (List.replicate (Int.toNat width) 0 : List Int) : Nat) : Int))) then (iRejectsNulls_l0 width k (v19 + 1) (List.set states v19 7)) else states)

def iRejectsNulls_l1 (width : Int) (nulls : List Int) : Nat → Nat → (List Int) → (List Int)
 | 0, v28, states1 => states1
 | k + 1, v28, states1 => (bif (decide (((v28 : Nat) : Int) < ((List.length nulls : Nat) : Int))) then (bif (bif (decide (0 ≤ (List.getD nulls v28 0))) then (decide ((List.getD nulls v28 0) < width)) else false) then (iRejectsNulls_l1 width nulls k (v28 + 1) (List.set states1 (Int.toNat (List.getD nulls v28 0)) 4)) else (iRejectsNulls_l1 width nulls k (v28 + 1) states1)) else states1)

def iRejectsNulls (e : Xpr) (width : Int) (nulls : List Int) : Bool := (bif (!(iValidExpr (Xpr.mk (Xpr.Kind e) (Xpr.Col e) (Xpr.V e) (Xpr.Kids e)) width)) then false else (Go.Am.andThen (iRejectsNulls_l0 width ((List.length (List.replicate (Int.toNat width) 0 : List Int)) - 0 + 1) 0 (List.replicate (Int.toNat width) 0 : List Int)) (fun z => (fun (states : List Int) => (Go.Am.andThen (iRejectsNulls_l1 width nulls ((List.length nulls) - 0 + 1) 0 states) (fun z => (fun (states1 : List Int) => ((bits .and .i64 (ioutcomes (Xpr.mk (Xpr.Kind e) (Xpr.Col e) (Xpr.V e) (Xpr.Kids e)) states1) 2) == 0)) z))) z)))

def iRejectsNulls_sp : FnSpec := mkSpec [.val (.named 1), .val (.int .i64), .val (.slice (.int .i64))] [.val .bool] (fun (e : Xpr) (width : Int) (nulls : List Int) => True) (fun (e : Xpr) (width : Int) (nulls : List Int) => [⟨.bool, (iRejectsNulls e width nulls)⟩])

theorem iRejectsNulls_ok : FnOK Try.prog 12 iRejectsNulls_sp := by
 have hC : CtxOK Try.prog (mkCtx tyL [(20, iValidExpr_sp), (21, ioutcomes_sp)]) := CtxOK.cons iValidExpr_ok (CtxOK.cons ioutcomes_ok (CtxOK.nil tyOK))
 refine FnOK.of_body Try.func12 (by kernel_rfl) rfl (C := (mkCtx tyL [(20, iValidExpr_sp), (21, ioutcomes_sp)])) hC.ty (by kernel_rfl) ?_
 intro (e : Xpr) (width : Int) (nulls : List Int) hwf hpre E
 have hpre : True := hpre
 have hw_e : Wf ⟨(.named 1), (e : Xpr)⟩ := hwf _ (List.Mem.head _)
 obtain ⟨hr_e_Kind, hr_e_Col, hl_e_Kids⟩ := Xpr.wfl hw_e
 have hw_width : Wf ⟨(.int .i64), (width : Int)⟩ := hwf _ (List.Mem.tail _ (List.Mem.head _))
 have hr_width : -9223372036854775808 ≤ width ∧ width ≤ 9223372036854775807 := hw_width.int_inv
 have hw_nulls : Wf ⟨(.slice (.int .i64)), (nulls : List Int)⟩ := hwf _ (List.Mem.tail _ (List.Mem.tail _ (List.Mem.head _)))
 have hl_nulls : ((List.length nulls : Nat) : Int) ≤ 9223372036854775807 := hw_nulls.len
 have e0 : iRejectsNulls e width nulls = iRejectsNulls e width nulls := rfl
 refine AW.seq (AW.r1 hC [1, 2, 3] [12] ⟨[(1, sI width), (2, sD6 nulls), (3, .ref 12 1 0)], [(12, .box 1 [sI (Xpr.Kind e), sI (Xpr.Col e), sB (Val.Null (Xpr.V e)), sI (Val.N (Xpr.V e)), sD9 (Xpr.Kids e)])]⟩ ?_)
 refine AW.seq (AW.seq (AW.r0 hC [1, 2, 3, 14] [12] ⟨[(1, sI width), (2, sD6 nulls), (3, .ref 12 1 0), (14, sB (!(iValidExpr (Xpr.mk (Xpr.Kind e) (Xpr.Col e) (Xpr.V e) (Xpr.Kids e)) width)))], [(12, .box 1 [sI (Xpr.Kind e), sI (Xpr.Col e), sB (Val.Null (Xpr.V e)), sI (Val.N (Xpr.V e)), sD9 (Xpr.Kids e)])]⟩ [(True)] ?_ ?_))
 ·
  refine ⟨?_, trivial⟩
  ·
   trivial
 refine AW.cd (!(iValidExpr (Xpr.mk (Xpr.Kind e) (Xpr.Col e) (Xpr.V e) (Xpr.Kids e)) width)) ?_ ?_
 ·
  intro h1
  have h1q := (Go.Am.not_pos h1)
  have e2 := e0.trans (Go.Am.bif_t h1)
  refine AW.seq (AW.r1 hC [6] [] ⟨[(6, sB false)], []⟩ ?_)
  exact AW.ret (AW.rB false e2)
 ·
  intro h3
  have h3q := (Go.Am.not_neg h3)
  have e4 := e0.trans (Go.Am.bif_f h3)
  refine AW.kp [1, 2, 3] [12] ⟨[(1, sI width), (2, sD6 nulls), (3, .ref 12 1 0)], [(12, .box 1 [sI (Xpr.Kind e), sI (Xpr.Col e), sB (Val.Null (Xpr.V e)), sI (Val.N (Xpr.V e)), sD9 (Xpr.Kids e)])]⟩ ?_
  refine AW.skip (AW.seq (AW.r0 hC [1, 2, 3, 7] [12, 64] ⟨[(1, sI width), (2, sD6 nulls), (3, .ref 12 1 0), (7, .arr 64 1)], [(12, .box 1 [sI (Xpr.Kind e), sI (Xpr.Col e), sB (Val.Null (Xpr.V e)), sI (Val.N (Xpr.V e)), sD9 (Xpr.Kids e)]), (64, .arr 1 (.int .i64) ((List.replicate (Int.toNat width) 0 : List Int) : List Int))]⟩ [(0 ≤ width ∧ width ≤ width ∧ width ≤ 4294967296)] ?_ ?_))
  ·
   refine ⟨?_, trivial⟩
   ·
    have hw := (iValidExpr_iff.1 (by first | exact h3q | exact trivial | exact trivial)).1
    first | omega | (simp only [List.length_replicate] at *; omega)
  refine AW.seq (AW.seq (AW.r1 hC [1, 2, 3, 7, 18, 19] [12, 64] ⟨[(1, sI width), (2, sD6 nulls), (3, .ref 12 1 0), (7, .arr 64 1), (18, sI ((List.length (List.replicate (Int.toNat width) 0 : List Int) : Nat) : Int)), (19, sI 0)], [(12, .box 1 [sI (Xpr.Kind e), sI (Xpr.Col e), sB (Val.Null (Xpr.V e)), sI (Val.N (Xpr.V e)), sD9 (Xpr.Kids e)]), (64, .arr 1 (.int .i64) ((List.replicate (Int.toNat width) 0 : List Int) : List Int))]⟩ ?_))
  refine AW.cutQ (α := (List Int)) (fun x => ⟨[(1, sI width), (2, sD6 nulls), (3, .ref 12 1 0), (7, .arr 64 1)], [(12, .box 1 [sI (Xpr.Kind e), sI (Xpr.Col e), sB (Val.Null (Xpr.V e)), sI (Val.N (Xpr.V e)), sD9 (Xpr.Kids e)]), (64, .arr 1 (.int .i64) (x : List Int))]⟩) (fun x => ((List.length x : Int) = width ∧ ∀ j, j < List.length x → List.getD x j 0 = 7) ∧ (iRejectsNulls_l0 width ((List.length (List.replicate (Int.toNat width) 0 : List Int)) - 0 + 1) 0 (List.replicate (Int.toNat width) 0 : List Int)) = x) ?_ ?_
  ·
   skip
   refine AW.block (AW.loop (α := Nat × (List Int)) (fun x => ⟨[(1, sI width), (2, sD6 nulls), (3, .ref 12 1 0), (7, .arr 64 1), (18, sI ((List.length (List.replicate (Int.toNat width) 0 : List Int) : Nat) : Int)), (19, sI ((x.1 : Nat) : Int))], [(12, .box 1 [sI (Xpr.Kind e), sI (Xpr.Col e), sB (Val.Null (Xpr.V e)), sI (Val.N (Xpr.V e)), sD9 (Xpr.Kids e)]), (64, .arr 1 (.int .i64) (x.2 : List Int))]⟩) (fun x => ((List.length x.2 : Int) = width ∧ ∀ j, j < x.1 → List.getD x.2 j 0 = 7) ∧ ∃ k, (List.length (List.replicate (Int.toNat width) 0 : List Int)) - x.1 < k ∧ (iRejectsNulls_l0 width ((List.length (List.replicate (Int.toNat width) 0 : List Int)) - 0 + 1) 0 (List.replicate (Int.toNat width) 0 : List Int)) = iRejectsNulls_l0 width k x.1 x.2) (fun x => (List.length (List.replicate (Int.toNat width) 0 : List Int)) - x.1) (0, (List.replicate (Int.toNat width) 0 : List Int)) (by kernel_rfl) ⟨?_, _, Nat.lt_succ_self _, rfl⟩ ?_)
   ·
    show (List.length (List.replicate (Int.toNat width) 0 : List Int) : Int) = width ∧ ∀ j, j < 0 → List.getD (List.replicate (Int.toNat width) 0 : List Int) j 0 = 7
    have hw := (iValidExpr_iff.1 h3q).1
    exact ⟨by simp; omega, fun j hj => absurd hj (Nat.not_lt_zero _)⟩
   ·
    intro x hR
    obtain ⟨v19, states⟩ := x
    obtain ⟨hI0, k19, hk17, e18⟩ := hR
    replace hI0 : (List.length states : Int) = width ∧ ∀ j, j < v19 → List.getD states j 0 = 7 := hI0
    replace hk17 : (List.length (List.replicate (Int.toNat width) 0 : List Int)) - v19 < k19 := hk17
    obtain ⟨k19q, rfl⟩ : ∃ k, k19 = k + 1 := ⟨k19 - 1, by omega⟩
    refine AW.seq (AW.r1 hC [1, 2, 3, 7, 18, 19, 20] [12, 64] ⟨[(1, sI width), (2, sD6 nulls), (3, .ref 12 1 0), (7, .arr 64 1), (18, sI ((List.length (List.replicate (Int.toNat width) 0 : List Int) : Nat) : Int)), (19, sI ((v19 : Nat) : Int)), (20, sB (decide (((v19 : Nat) : Int) < ((List.length (List.replicate (Int.toNat width) 0 : List Int) : Nat) : Int))))], [(12, .box 1 [sI (Xpr.Kind e), sI (Xpr.Col e), sB (Val.Null (Xpr.V e)), sI (Val.N (Xpr.V e)), sD9 (Xpr.Kids e)]), (64, .arr 1 (.int .i64) (states : List Int))]⟩ ?_)
    refine AW.seq (AW.cd (decide (((v19 : Nat) : Int) < ((List.length (List.replicate (Int.toNat width) 0 : List Int) : Nat) : Int))) ?_ ?_)
    ·
     intro h20
     have h20q := (of_decide_eq_true h20)
     have e21 := e18.trans (Go.Am.bif_t h20)
     refine AW.kp [1, 2, 3, 7, 18, 19] [12, 64] ⟨[(1, sI width), (2, sD6 nulls), (3, .ref 12 1 0), (7, .arr 64 1), (18, sI ((List.length (List.replicate (Int.toNat width) 0 : List Int) : Nat) : Int)), (19, sI ((v19 : Nat) : Int))], [(12, .box 1 [sI (Xpr.Kind e), sI (Xpr.Col e), sB (Val.Null (Xpr.V e)), sI (Val.N (Xpr.V e)), sD9 (Xpr.Kids e)]), (64, .arr 1 (.int .i64) (states : List Int))]⟩ ?_
     refine AW.skip (AW.seq (AW.block (AW.seq (AW.r1 hC [1, 2, 3, 7, 8, 18, 19] [12, 64] ⟨[(1, sI width), (2, sD6 nulls), (3, .ref 12 1 0), (7, .arr 64 1), (8, sI ((v19 : Nat) : Int)), (18, sI ((List.length (List.replicate (Int.toNat width) 0 : List Int) : Nat) : Int)), (19, sI ((v19 : Nat) : Int))], [(12, .box 1 [sI (Xpr.Kind e), sI (Xpr.Col e), sB (Val.Null (Xpr.V e)), sI (Val.N (Xpr.V e)), sD9 (Xpr.Kids e)]), (64, .arr 1 (.int .i64) (states : List Int))]⟩ ?_))))
     refine AW.r0 hC [1, 2, 3, 7, 18, 19] [12, 64] ⟨[(1, sI width), (2, sD6 nulls), (3, .ref 12 1 0), (7, .arr 64 1), (18, sI ((List.length (List.replicate (Int.toNat width) 0 : List Int) : Nat) : Int)), (19, sI ((v19 : Nat) : Int))], [(12, .box 1 [sI (Xpr.Kind e), sI (Xpr.Col e), sB (Val.Null (Xpr.V e)), sI (Val.N (Xpr.V e)), sD9 (Xpr.Kids e)]), (64, .arr 1 (.int .i64) ((List.set states v19 7) : List Int))]⟩ [IX ((v19 : Nat) : Int) ((List.length states : Nat) : Int)] ?_ ?_
     ·
      refine ⟨?_, trivial⟩
      ·
       refine IX.of ?_
       have hw := (iValidExpr_iff.1 (by first | exact h20q | exact h3q | exact trivial)).1
       first | omega | (simp only [List.length_replicate] at *; omega)
     refine AW.r0 hC [1, 2, 3, 7, 18, 19] [12, 64] ⟨[(1, sI width), (2, sD6 nulls), (3, .ref 12 1 0), (7, .arr 64 1), (18, sI ((List.length (List.replicate (Int.toNat width) 0 : List Int) : Nat) : Int)), (19, sI ((v19 + 1 : Nat) : Int))], [(12, .box 1 [sI (Xpr.Kind e), sI (Xpr.Col e), sB (Val.Null (Xpr.V e)), sI (Val.N (Xpr.V e)), sD9 (Xpr.Kids e)]), (64, .arr 1 (.int .i64) ((List.set states v19 7) : List Int))]⟩ [R64 ((v19 + 1 : Nat) : Int)] ?_ ?_
     ·
      refine ⟨?_, trivial⟩
      ·
       refine R64.of ?_
       have hw := (iValidExpr_iff.1 (by first | exact h20q | exact h3q | exact trivial)).1
       first | omega | (simp only [List.length_replicate] at *; omega)
     refine AW.back (x := (v19, states)) (v19 + 1, (List.set states v19 7)) (by kernel_rfl) ⟨?_, k19q, ?_, e21⟩ ?_
     ·
      show (List.length (List.set states v19 7) : Int) = width ∧ ∀ j, j < (v19 + 1) → List.getD (List.set states v19 7) j 0 = 7
      simp only [List.length_replicate] at *
      exact inv7 hI0 (by omega)
     ·
      show (List.length (List.replicate (Int.toNat width) 0 : List Int)) - (v19 + 1) < k19q
      first | omega | (simp only [lens]; omega)
     ·
      show (List.length (List.replicate (Int.toNat width) 0 : List Int)) - (v19 + 1) < (List.length (List.replicate (Int.toNat width) 0 : List Int)) - v19
      first | omega | (simp only [lens]; omega)
    ·
     intro h22
     have h22q := (of_decide_eq_false h22)
     have e23 := e18.trans (Go.Am.bif_f h22)
     refine AW.kp [1, 2, 3, 7] [12, 64] ⟨[(1, sI width), (2, sD6 nulls), (3, .ref 12 1 0), (7, .arr 64 1)], [(12, .box 1 [sI (Xpr.Kind e), sI (Xpr.Col e), sB (Val.Null (Xpr.V e)), sI (Val.N (Xpr.V e)), sD9 (Xpr.Kids e)]), (64, .arr 1 (.int .i64) (states : List Int))]⟩ ?_
     refine AW.exit ?_
     refine AW.meet states (by kernel_rfl) ⟨?_, e23⟩
     show (List.length states : Int) = width ∧ ∀ j, j < List.length states → List.getD states j 0 = 7
     simp only [List.length_replicate] at *
     exact ⟨hI0.1, fun j hj => hI0.2 j (by omega)⟩
  ·
   intro states hR
   obtain ⟨hJ0, e24⟩ := hR
   replace hJ0 : (List.length states : Int) = width ∧ ∀ j, j < List.length states → List.getD states j 0 = 7 := hJ0
   have e25 := e4.trans (Go.Am.then_eq e24)
   refine AW.seq (AW.seq (AW.r1 hC [1, 3, 7, 26, 27, 28] [12, 64] ⟨[(1, sI width), (3, .ref 12 1 0), (7, .arr 64 1), (26, sD6 nulls), (27, sI ((List.length nulls : Nat) : Int)), (28, sI 0)], [(12, .box 1 [sI (Xpr.Kind e), sI (Xpr.Col e), sB (Val.Null (Xpr.V e)), sI (Val.N (Xpr.V e)), sD9 (Xpr.Kids e)]), (64, .arr 1 (.int .i64) (states : List Int))]⟩ ?_))
   refine AW.cutQ (α := (List Int)) (fun x => ⟨[(3, .ref 12 1 0), (7, .arr 64 1)], [(12, .box 1 [sI (Xpr.Kind e), sI (Xpr.Col e), sB (Val.Null (Xpr.V e)), sI (Val.N (Xpr.V e)), sD9 (Xpr.Kids e)]), (64, .arr 1 (.int .i64) (x : List Int))]⟩) (fun x => ((List.length x : Int) = width ∧ VS x) ∧ (iRejectsNulls_l1 width nulls ((List.length nulls) - 0 + 1) 0 states) = x) ?_ ?_
   ·
    skip
    refine AW.block (AW.loop (α := Nat × (List Int)) (fun x => ⟨[(1, sI width), (3, .ref 12 1 0), (7, .arr 64 1), (26, sD6 nulls), (27, sI ((List.length nulls : Nat) : Int)), (28, sI ((x.1 : Nat) : Int))], [(12, .box 1 [sI (Xpr.Kind e), sI (Xpr.Col e), sB (Val.Null (Xpr.V e)), sI (Val.N (Xpr.V e)), sD9 (Xpr.Kids e)]), (64, .arr 1 (.int .i64) (x.2 : List Int))]⟩) (fun x => ((List.length x.2 : Int) = width ∧ VS x.2) ∧ ∃ k, (List.length nulls) - x.1 < k ∧ (iRejectsNulls_l1 width nulls ((List.length nulls) - 0 + 1) 0 states) = iRejectsNulls_l1 width nulls k x.1 x.2) (fun x => (List.length nulls) - x.1) (0, states) (by kernel_rfl) ⟨?_, _, Nat.lt_succ_self _, rfl⟩ ?_)
    ·
     show (List.length states : Int) = width ∧ VS states
     exact ⟨hJ0.1, fun j hj => by rw [hJ0.2 j hj]; omega⟩
    ·
     intro x hR
     obtain ⟨v28, states1⟩ := x
     obtain ⟨hI1, k52, hk50, e51⟩ := hR
     replace hI1 : (List.length states1 : Int) = width ∧ VS states1 := hI1
     replace hk50 : (List.length nulls) - v28 < k52 := hk50
     obtain ⟨k52q, rfl⟩ : ∃ k, k52 = k + 1 := ⟨k52 - 1, by omega⟩
     refine AW.seq (AW.r1 hC [1, 3, 7, 26, 27, 28, 29] [12, 64] ⟨[(1, sI width), (3, .ref 12 1 0), (7, .arr 64 1), (26, sD6 nulls), (27, sI ((List.length nulls : Nat) : Int)), (28, sI ((v28 : Nat) : Int)), (29, sB (decide (((v28 : Nat) : Int) < ((List.length nulls : Nat) : Int))))], [(12, .box 1 [sI (Xpr.Kind e), sI (Xpr.Col e), sB (Val.Null (Xpr.V e)), sI (Val.N (Xpr.V e)), sD9 (Xpr.Kids e)]), (64, .arr 1 (.int .i64) (states1 : List Int))]⟩ ?_)
     refine AW.seq (AW.cd (decide (((v28 : Nat) : Int) < ((List.length nulls : Nat) : Int))) ?_ ?_)
     ·
      intro h53
      have h53q := (of_decide_eq_true h53)
      have e54 := e51.trans (Go.Am.bif_t h53)
      refine AW.kp [1, 3, 7, 26, 27, 28] [12, 64] ⟨[(1, sI width), (3, .ref 12 1 0), (7, .arr 64 1), (26, sD6 nulls), (27, sI ((List.length nulls : Nat) : Int)), (28, sI ((v28 : Nat) : Int))], [(12, .box 1 [sI (Xpr.Kind e), sI (Xpr.Col e), sB (Val.Null (Xpr.V e)), sI (Val.N (Xpr.V e)), sD9 (Xpr.Kids e)]), (64, .arr 1 (.int .i64) (states1 : List Int))]⟩ ?_
      refine AW.skip (AW.seq (AW.block (AW.seq (AW.r0 hC [1, 3, 7, 10, 26, 27, 28] [12, 64] ⟨[(1, sI width), (3, .ref 12 1 0), (7, .arr 64 1), (10, sI (List.getD nulls v28 0)), (26, sD6 nulls), (27, sI ((List.length nulls : Nat) : Int)), (28, sI ((v28 : Nat) : Int))], [(12, .box 1 [sI (Xpr.Kind e), sI (Xpr.Col e), sB (Val.Null (Xpr.V e)), sI (Val.N (Xpr.V e)), sD9 (Xpr.Kids e)]), (64, .arr 1 (.int .i64) (states1 : List Int))]⟩ [IX ((v28 : Nat) : Int) ((List.length nulls : Nat) : Int)] ?_ ?_))))
      ·
       refine ⟨?_, trivial⟩
       ·
        refine IX.of ?_
        have hw := (iValidExpr_iff.1 (by first | exact h53q | exact h3q | exact trivial)).1
        first | omega | (simp only [List.length_replicate] at *; omega)
      refine AW.seq (AW.r0 hC [1, 3, 7, 10, 26, 27, 28, 38] [12, 64] ⟨[(1, sI width), (3, .ref 12 1 0), (7, .arr 64 1), (10, sI (List.getD nulls v28 0)), (26, sD6 nulls), (27, sI ((List.length nulls : Nat) : Int)), (28, sI ((v28 : Nat) : Int)), (38, sB (bif (decide (0 ≤ (List.getD nulls v28 0))) then (decide ((List.getD nulls v28 0) < width)) else false))], [(12, .box 1 [sI (Xpr.Kind e), sI (Xpr.Col e), sB (Val.Null (Xpr.V e)), sI (Val.N (Xpr.V e)), sD9 (Xpr.Kids e)]), (64, .arr 1 (.int .i64) (states1 : List Int))]⟩ [(((decide (0 ≤ (List.getD nulls v28 0))) = true) → (((decide (0 ≤ (List.getD nulls v28 0))) = true))), (((decide (0 ≤ (List.getD nulls v28 0))) = true) → (((decide (0 ≤ (List.getD nulls v28 0))) = true))), (((decide (0 ≤ (List.getD nulls v28 0))) = true) → (((decide (0 ≤ (List.getD nulls v28 0))) = true)))] ?_ ?_)
      ·
       refine ⟨?_, ?_, ?_, trivial⟩
       ·
        intro g55
        have g55p0 : 0 ≤ (List.getD nulls v28 0) := (of_decide_eq_true g55)
        first | assumption | exact ⟨by assumption, by assumption⟩
       ·
        intro g56
        have g56p0 : 0 ≤ (List.getD nulls v28 0) := (of_decide_eq_true g56)
        first | assumption | exact ⟨by assumption, by assumption⟩
       ·
        intro g57
        have g57p0 : 0 ≤ (List.getD nulls v28 0) := (of_decide_eq_true g57)
        first | assumption | exact ⟨by assumption, by assumption⟩
      refine AW.cd (bif (decide (0 ≤ (List.getD nulls v28 0))) then (decide ((List.getD nulls v28 0) < width)) else false) ?_ ?_
      ·
       intro h58
       have h58q : (0 ≤ (List.getD nulls v28 0)) ∧ ((List.getD nulls v28 0) < width) := (And.imp (fun h => (of_decide_eq_true h)) (fun h => (of_decide_eq_true h)) (Go.Am.and_pos h58))
       have e59 := e54.trans (Go.Am.bif_t h58)
       refine AW.r0 hC [1, 3, 7, 26, 27, 28] [12, 64] ⟨[(1, sI width), (3, .ref 12 1 0), (7, .arr 64 1), (26, sD6 nulls), (27, sI ((List.length nulls : Nat) : Int)), (28, sI ((v28 : Nat) : Int))], [(12, .box 1 [sI (Xpr.Kind e), sI (Xpr.Col e), sB (Val.Null (Xpr.V e)), sI (Val.N (Xpr.V e)), sD9 (Xpr.Kids e)]), (64, .arr 1 (.int .i64) ((List.set states1 (Int.toNat (List.getD nulls v28 0)) 4) : List Int))]⟩ [IX (List.getD nulls v28 0) ((List.length states1 : Nat) : Int)] ?_ ?_
       ·
        refine ⟨?_, trivial⟩
        ·
         refine IX.of ?_
         have hw := (iValidExpr_iff.1 (by first | exact h58q | exact h53q | exact h3q)).1
         first | omega | (simp only [List.length_replicate] at *; omega)
       refine AW.r0 hC [1, 3, 7, 26, 27, 28] [12, 64] ⟨[(1, sI width), (3, .ref 12 1 0), (7, .arr 64 1), (26, sD6 nulls), (27, sI ((List.length nulls : Nat) : Int)), (28, sI ((v28 + 1 : Nat) : Int))], [(12, .box 1 [sI (Xpr.Kind e), sI (Xpr.Col e), sB (Val.Null (Xpr.V e)), sI (Val.N (Xpr.V e)), sD9 (Xpr.Kids e)]), (64, .arr 1 (.int .i64) ((List.set states1 (Int.toNat (List.getD nulls v28 0)) 4) : List Int))]⟩ [R64 ((v28 + 1 : Nat) : Int)] ?_ ?_
       ·
        refine ⟨?_, trivial⟩
        ·
         refine R64.of ?_
         have hw := (iValidExpr_iff.1 (by first | exact h58q | exact h53q | exact h3q)).1
         first | omega | (simp only [List.length_replicate] at *; omega)
       refine AW.back (x := (v28, states1)) (v28 + 1, (List.set states1 (Int.toNat (List.getD nulls v28 0)) 4)) (by kernel_rfl) ⟨?_, k52q, ?_, e59⟩ ?_
       ·
        show (List.length (List.set states1 (Int.toNat (List.getD nulls v28 0)) 4) : Int) = width ∧ VS (List.set states1 (Int.toNat (List.getD nulls v28 0)) 4)
        exact inv4 hI1
       ·
        show (List.length nulls) - (v28 + 1) < k52q
        first | omega | (simp only [lens]; omega)
       ·
        show (List.length nulls) - (v28 + 1) < (List.length nulls) - v28
        first | omega | (simp only [lens]; omega)
      ·
       intro h60
       have h60q : (¬ (0 ≤ (List.getD nulls v28 0))) ∨ (¬ ((List.getD nulls v28 0) < width)) := (Or.imp (fun h => (of_decide_eq_false h)) (fun h => (of_decide_eq_false h)) (Go.Am.and_neg h60))
       have e61 := e54.trans (Go.Am.bif_f h60)
       refine AW.kp [1, 3, 7, 26, 27, 28] [12, 64] ⟨[(1, sI width), (3, .ref 12 1 0), (7, .arr 64 1), (26, sD6 nulls), (27, sI ((List.length nulls : Nat) : Int)), (28, sI ((v28 : Nat) : Int))], [(12, .box 1 [sI (Xpr.Kind e), sI (Xpr.Col e), sB (Val.Null (Xpr.V e)), sI (Val.N (Xpr.V e)), sD9 (Xpr.Kids e)]), (64, .arr 1 (.int .i64) (states1 : List Int))]⟩ ?_
       refine AW.skip (AW.r0 hC [1, 3, 7, 26, 27, 28] [12, 64] ⟨[(1, sI width), (3, .ref 12 1 0), (7, .arr 64 1), (26, sD6 nulls), (27, sI ((List.length nulls : Nat) : Int)), (28, sI ((v28 + 1 : Nat) : Int))], [(12, .box 1 [sI (Xpr.Kind e), sI (Xpr.Col e), sB (Val.Null (Xpr.V e)), sI (Val.N (Xpr.V e)), sD9 (Xpr.Kids e)]), (64, .arr 1 (.int .i64) (states1 : List Int))]⟩ [R64 ((v28 + 1 : Nat) : Int)] ?_ ?_)
       ·
        refine ⟨?_, trivial⟩
        ·
         refine R64.of ?_
         have hw := (iValidExpr_iff.1 (by first | exact h60q | exact h53q | exact h3q)).1
         first | omega | (simp only [List.length_replicate] at *; omega)
       refine AW.back (x := (v28, states1)) (v28 + 1, states1) (by kernel_rfl) ⟨?_, k52q, ?_, e61⟩ ?_
       ·
        show (List.length states1 : Int) = width ∧ VS states1
        exact hI1
       ·
        show (List.length nulls) - (v28 + 1) < k52q
        first | omega | (simp only [lens]; omega)
       ·
        show (List.length nulls) - (v28 + 1) < (List.length nulls) - v28
        first | omega | (simp only [lens]; omega)
     ·
      intro h62
      have h62q := (of_decide_eq_false h62)
      have e63 := e51.trans (Go.Am.bif_f h62)
      refine AW.kp [3, 7] [12, 64] ⟨[(3, .ref 12 1 0), (7, .arr 64 1)], [(12, .box 1 [sI (Xpr.Kind e), sI (Xpr.Col e), sB (Val.Null (Xpr.V e)), sI (Val.N (Xpr.V e)), sD9 (Xpr.Kids e)]), (64, .arr 1 (.int .i64) (states1 : List Int))]⟩ ?_
      refine AW.exit ?_
      refine AW.meet states1 (by kernel_rfl) ⟨?_, e63⟩
      show (List.length states1 : Int) = width ∧ VS states1
      exact hI1
   ·
    intro states1 hR
    obtain ⟨hJ1, e64⟩ := hR
    replace hJ1 : (List.length states1 : Int) = width ∧ VS states1 := hJ1
    have e65 := e25.trans (Go.Am.then_eq e64)
    refine AW.seq (AW.r0 hC [6] [] ⟨[(6, sB ((bits .and .i64 (ioutcomes (Xpr.mk (Xpr.Kind e) (Xpr.Col e) (Xpr.V e) (Xpr.Kids e)) states1) 2) == 0))], []⟩ [(VX states1 (Xpr.mk (Xpr.Kind e) (Xpr.Col e) (Xpr.V e) (Xpr.Kids e)))] ?_ ?_)
    ·
     refine ⟨?_, trivial⟩
     ·
      refine ⟨hJ1.2, 8, ?_⟩
      rw [hJ1.1]
      exact (iValidExpr_iff.1 h3q).2
    exact AW.ret (AW.rB ((bits .and .i64 (ioutcomes (Xpr.mk (Xpr.Kind e) (Xpr.Col e) (Xpr.V e) (Xpr.Kids e)) states1) 2) == 0) e65)

end
end Go.Proofs.Ytophfihhdelbiaa
