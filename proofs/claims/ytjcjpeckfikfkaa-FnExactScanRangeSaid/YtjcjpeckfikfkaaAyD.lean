/-
  A part of the proof of this claim (AyD): what functions of the program compute, and plain facts of that. No conditions.
-/
import Derived.Test.YtjcjpeckfikfkaaAyC
import Derived.Test.YtjcjpeckfikfkaaAwL
import Derived.Test.YtjcjpeckfikfkaaAwE
set_option linter.all false
namespace Go.Proofs.Ytjcjpeckfikfkaa
open Go Go.Am
noncomputable section

theorem inv_app {rows ar : List (List Val)} {i : Nat} (h : (∀ r ∈ ar, r ∈ rows) ∧ ar.length ≤ i) (hi : i < rows.length) : (∀ r ∈ ar ++ ([rows.getD i []] : List (List Val)), r ∈ rows) ∧ (ar ++ ([rows.getD i []] : List (List Val))).length ≤ i + 1 := by
 refine ⟨fun r hr => ?_, ?_⟩
 ·
  rcases List.mem_append.1 hr with h' | h'
  ·
   exact h.1 r h'
  ·
   rw [List.mem_singleton.1 h']
   exact getD_mem _ _ _ hi
 ·
  rw [List.length_append]
  have := h.2
  simp only [List.length_cons, List.length_nil]
  omega

def sScanRange_l0 (t : Tab) (col : Int) (r : Rng) : Nat → Nat → (List (List Val)) → (List (List Val))
 | 0, i, rows => rows
 | k + 1, i, rows => (bif (decide (((i : Nat) : Int) < ((List.length (Tab.Rows t) : Nat) : Int))) then (bif (bif (!(Val.Null (List.getD (List.getD (Tab.Rows t) i []) (Int.toNat col) Val.zero))) then (inRange (Val.N (List.getD (List.getD (Tab.Rows t) i []) (Int.toNat col) Val.zero)) (Rng.Low r) (Rng.High r)) else false) then (sScanRange_l0 t col r k (i + 1) (rows ++ ([(List.getD (Tab.Rows t) i [])] : List (List Val)))) else (sScanRange_l0 t col r k (i + 1) rows)) else rows)

def sScanRange (t : Tab) (col : Int) (r : Rng) : Tab × Bool := (bif (bif (!(validTable t)) then true else (!(inRange col 0 ((Tab.Width t) - 1)))) then ((Tab.mk 0 ([] : List (List Val))), false) else (Go.Am.andThen (sScanRange_l0 t col r ((List.length (Tab.Rows t)) - 0 + 1) 0 ([] : List (List Val))) (fun z => (fun (rows : List (List Val)) => ((tableOf (Tab.Width t) rows), true)) z)))

def sScanRange_sp : FnSpec := mkSpec [.val (.named 2), .val (.int .i64), .val (.named 0)] [.val (.named 2), .val .bool] (fun (t : Tab) (col : Int) (r : Rng) => True) (fun (t : Tab) (col : Int) (r : Rng) => [⟨(.named 2), ((sScanRange t col r).1)⟩, ⟨.bool, ((sScanRange t col r).2)⟩])

theorem sScanRange_ok : FnOK Try.prog 49 sScanRange_sp := by
 have hC : CtxOK Try.prog (mkCtx tyL [(64, inRange_sp), (66, tableOf_sp), (77, validTable_sp)]) := CtxOK.cons inRange_ok (CtxOK.cons tableOf_ok (CtxOK.cons validTable_ok (CtxOK.nil tyOK)))
 have hM : Try.prog.follows .mixedOrders = true := Try.checked.mixed
 refine FnOK.of_body Try.func49 (by kernel_rfl) rfl (C := (mkCtx tyL [(64, inRange_sp), (66, tableOf_sp), (77, validTable_sp)])) hC.ty (by kernel_rfl) ?_
 intro (t : Tab) (col : Int) (r : Rng) hwf hpre E
 have hpre : True := hpre
 have hw_t : Wf ⟨(.named 2), (t : Tab)⟩ := hwf _ (List.Mem.head _)
 have hr_t_Width : -9223372036854775808 ≤ Tab.Width t ∧ Tab.Width t ≤ 9223372036854775807 := (hw_t.field (tv := ⟨(.int .i64), Tab.Width t⟩) (List.Mem.head _)).int_inv
 have hl_t_Rows : ((List.length (Tab.Rows t) : Nat) : Int) ≤ 9223372036854775807 := (hw_t.field (tv := ⟨(.slice (.slice (.named 1))), Tab.Rows t⟩) (List.Mem.tail _ (List.Mem.head _))).len
 have hw_col : Wf ⟨(.int .i64), (col : Int)⟩ := hwf _ (List.Mem.tail _ (List.Mem.head _))
 have hr_col : -9223372036854775808 ≤ col ∧ col ≤ 9223372036854775807 := hw_col.int_inv
 have hw_r : Wf ⟨(.named 0), (r : Rng)⟩ := hwf _ (List.Mem.tail _ (List.Mem.tail _ (List.Mem.head _)))
 have hr_r_Low : -9223372036854775808 ≤ Rng.Low r ∧ Rng.Low r ≤ 9223372036854775807 := (hw_r.field (tv := ⟨(.int .i64), Rng.Low r⟩) (List.Mem.head _)).int_inv
 have hr_r_High : -9223372036854775808 ≤ Rng.High r ∧ Rng.High r ≤ 9223372036854775807 := (hw_r.field (tv := ⟨(.int .i64), Rng.High r⟩) (List.Mem.tail _ (List.Mem.head _))).int_inv
 have e0 : sScanRange t col r = sScanRange t col r := rfl
 refine AW.seq (AW.r1 hC [1, 3, 5, 6] [12, 20, 24] ⟨[(1, .int .i64 col), (3, .ref 12 1 0), (5, .ref 20 1 0), (6, .ref 24 1 0)], [(12, .box 1 [.int .i64 (Tab.Width t), .data (.slice (.slice (.named 1))) ((Tab.Rows t) : List (List Val))]), (20, .box 1 [.int .i64 (Rng.Low r), .int .i64 (Rng.High r)]), (24, .box 1 [.int .i64 0, .nilsl])]⟩ ?_)
 refine AW.seq (AW.r1 hC [1, 3, 5, 6, 8] [12, 20, 24, 40] ⟨[(1, .int .i64 col), (3, .ref 12 1 0), (5, .ref 20 1 0), (6, .ref 24 1 0), (8, .arr 40 1)], [(12, .box 1 [.int .i64 (Tab.Width t), .data (.slice (.slice (.named 1))) ((Tab.Rows t) : List (List Val))]), (20, .box 1 [.int .i64 (Rng.Low r), .int .i64 (Rng.High r)]), (24, .box 1 [.int .i64 0, .nilsl]), (40, .arr 1 (.slice (.named 1)) (([] : List (List Val)) : List (List Val)))]⟩ ?_)
 refine AW.seq (AW.seq (AW.wf_arr (id := 40) (ep := 1) (t := (.slice (.named 1))) (xs := (([] : List (List Val)) : List (List Val))) (by kernel_rfl) fun ha1 _ => ?_))
 replace ha1 : ((List.length ([] : List (List Val)) : Nat) : Int) ≤ 4294967296 := ha1
 refine AW.r0 hC [1, 3, 5, 6, 8, 21] [12, 20, 24, 40] ⟨[(1, .int .i64 col), (3, .ref 12 1 0), (5, .ref 20 1 0), (6, .ref 24 1 0), (8, .arr 40 1), (21, .bool (bif (!(validTable t)) then true else (!(inRange col 0 ((Tab.Width t) - 1)))))], [(12, .box 1 [.int .i64 (Tab.Width t), .data (.slice (.slice (.named 1))) ((Tab.Rows t) : List (List Val))]), (20, .box 1 [.int .i64 (Rng.Low r), .int .i64 (Rng.High r)]), (24, .box 1 [.int .i64 0, .nilsl]), (40, .arr 1 (.slice (.named 1)) (([] : List (List Val)) : List (List Val)))]⟩ [(True), (((!(validTable t)) = false) → (((!(validTable t)) = false))), (((!(validTable t)) = false) → (((!(validTable t)) = false))), (((!(validTable t)) = false) → (-9223372036854775808 ≤ ((Tab.Width t) - 1) ∧ ((Tab.Width t) - 1) ≤ 9223372036854775807)), (((!(validTable t)) = false) → (((!(validTable t)) = false))), (((!(validTable t)) = false) → (((!(validTable t)) = false))), (((!(validTable t)) = false) → (True)), (((!(validTable t)) = false) → (((!(validTable t)) = false))), (((!(validTable t)) = false) → (((!(validTable t)) = false)))] ?_ ?_
 ·
  refine ⟨?_, ?_, ?_, ?_, ?_, ?_, ?_, ?_, ?_, trivial⟩
  ·
   trivial
  ·
   intro g2
   have g2p0 : (validTable t) = true := (Go.Am.not_neg g2)
   assumption
  ·
   intro g3
   have g3p0 : (validTable t) = true := (Go.Am.not_neg g3)
   assumption
  ·
   intro g4
   have g4p0 : (validTable t) = true := (Go.Am.not_neg g4)
   have := (validTable_iff.1 (by assumption)).w1
   omega
  ·
   intro g5
   have g5p0 : (validTable t) = true := (Go.Am.not_neg g5)
   assumption
  ·
   intro g6
   have g6p0 : (validTable t) = true := (Go.Am.not_neg g6)
   assumption
  ·
   intro g7
   have g7p0 : (validTable t) = true := (Go.Am.not_neg g7)
   trivial
  ·
   intro g8
   have g8p0 : (validTable t) = true := (Go.Am.not_neg g8)
   assumption
  ·
   intro g9
   have g9p0 : (validTable t) = true := (Go.Am.not_neg g9)
   assumption
 refine AW.cd (bif (!(validTable t)) then true else (!(inRange col 0 ((Tab.Width t) - 1)))) ?_ ?_
 ·
  intro h10
  have h10q : ((validTable t) = false) ∨ ((inRange col 0 ((Tab.Width t) - 1)) = false) := (Or.imp (fun h => (Go.Am.not_pos h)) (fun h => (Go.Am.not_pos h)) (Go.Am.or_pos h10))
  have e11 := e0.trans (Go.Am.bif_t h10)
  refine AW.seq (AW.wf_arr (id := 40) (ep := 1) (t := (.slice (.named 1))) (xs := (([] : List (List Val)) : List (List Val))) (by kernel_rfl) fun ha12 _ => ?_)
  replace ha12 : ((List.length ([] : List (List Val)) : Nat) : Int) ≤ 4294967296 := ha12
  refine AW.r1 hC [6, 7] [24] ⟨[(6, .ref 24 1 0), (7, .bool false)], [(24, .box 1 [.int .i64 0, .nilsl])]⟩ ?_
  exact AW.ret (AW.retE (β := Tab × Bool) (fun v => [⟨(.named 2), v.1⟩, ⟨.bool, v.2⟩]) (fun v => []) (v := ((Tab.mk 0 ([] : List (List Val))), false)) e11 (by kernel_rfl) rfl rfl)
 ·
  intro h13
  have h13q : ((validTable t) = true) ∧ ((inRange col 0 ((Tab.Width t) - 1)) = true) := (And.imp (fun h => (Go.Am.not_neg h)) (fun h => (Go.Am.not_neg h)) (Go.Am.or_neg h13))
  have e14 := e0.trans (Go.Am.bif_f h13)
  refine AW.kp [1, 3, 5, 6, 8] [12, 20, 24, 40] ⟨[(1, .int .i64 col), (3, .ref 12 1 0), (5, .ref 20 1 0), (6, .ref 24 1 0), (8, .arr 40 1)], [(12, .box 1 [.int .i64 (Tab.Width t), .data (.slice (.slice (.named 1))) ((Tab.Rows t) : List (List Val))]), (20, .box 1 [.int .i64 (Rng.Low r), .int .i64 (Rng.High r)]), (24, .box 1 [.int .i64 0, .nilsl]), (40, .arr 1 (.slice (.named 1)) (([] : List (List Val)) : List (List Val)))]⟩ ?_
  refine AW.skip (AW.seq (AW.seq (AW.wf_arr (id := 40) (ep := 1) (t := (.slice (.named 1))) (xs := (([] : List (List Val)) : List (List Val))) (by kernel_rfl) fun ha15 _ => ?_)))
  replace ha15 : ((List.length ([] : List (List Val)) : Nat) : Int) ≤ 4294967296 := ha15
  have hsr := sr_ok h13q
  have hn4 := (validTable_iff.1 h13q.1).n4
  have hok := (validTable_iff.1 h13q.1).rowsOK
  refine AW.r1 hC [1, 3, 5, 6, 8, 9] [12, 20, 24, 40] ⟨[(1, .int .i64 col), (3, .ref 12 1 0), (5, .ref 20 1 0), (6, .ref 24 1 0), (8, .arr 40 1), (9, .int .i64 0)], [(12, .box 1 [.int .i64 (Tab.Width t), .data (.slice (.slice (.named 1))) ((Tab.Rows t) : List (List Val))]), (20, .box 1 [.int .i64 (Rng.Low r), .int .i64 (Rng.High r)]), (24, .box 1 [.int .i64 0, .nilsl]), (40, .arr 1 (.slice (.named 1)) (([] : List (List Val)) : List (List Val)))]⟩ ?_
  refine AW.cutQ (α := (List (List Val))) (fun x => ⟨[(3, .ref 12 1 0), (6, .ref 24 1 0), (8, .arr 40 1)], [(12, .box 1 [.int .i64 (Tab.Width t), .data (.slice (.slice (.named 1))) ((Tab.Rows t) : List (List Val))]), (24, .box 1 [.int .i64 0, .nilsl]), (40, .arr 1 (.slice (.named 1)) (x : List (List Val)))]⟩) (fun x => ((∀ r ∈ x, r ∈ t.Rows) ∧ List.length x ≤ 400) ∧ (sScanRange_l0 t col r ((List.length (Tab.Rows t)) - 0 + 1) 0 ([] : List (List Val))) = x) ?_ ?_
  ·
   skip
   refine AW.block (AW.loop (α := Nat × (List (List Val))) (fun x => ⟨[(1, .int .i64 col), (3, .ref 12 1 0), (5, .ref 20 1 0), (6, .ref 24 1 0), (8, .arr 40 1), (9, .int .i64 ((x.1 : Nat) : Int))], [(12, .box 1 [.int .i64 (Tab.Width t), .data (.slice (.slice (.named 1))) ((Tab.Rows t) : List (List Val))]), (20, .box 1 [.int .i64 (Rng.Low r), .int .i64 (Rng.High r)]), (24, .box 1 [.int .i64 0, .nilsl]), (40, .arr 1 (.slice (.named 1)) (x.2 : List (List Val)))]⟩) (fun x => (((∀ r ∈ x.2, r ∈ t.Rows) ∧ List.length x.2 ≤ x.1) ∧ x.1 ≤ List.length t.Rows) ∧ ∃ k, (List.length (Tab.Rows t)) - x.1 < k ∧ (sScanRange_l0 t col r ((List.length (Tab.Rows t)) - 0 + 1) 0 ([] : List (List Val))) = sScanRange_l0 t col r k x.1 x.2) (fun x => (List.length (Tab.Rows t)) - x.1) (0, ([] : List (List Val))) (by kernel_rfl) ⟨?_, _, Nat.lt_succ_self _, rfl⟩ ?_)
   ·
    show ((∀ r ∈ ([] : List (List Val)), r ∈ t.Rows) ∧ List.length ([] : List (List Val)) ≤ 0) ∧ 0 ≤ List.length t.Rows
    exact ⟨⟨fun r hr => (by cases hr), Nat.le_refl _⟩, Nat.zero_le _⟩
   ·
    intro x hR
    obtain ⟨i, rows⟩ := x
    obtain ⟨hI0, k57, hk55, e56⟩ := hR
    replace hI0 : ((∀ r ∈ rows, r ∈ t.Rows) ∧ List.length rows ≤ i) ∧ i ≤ List.length t.Rows := hI0
    replace hk55 : (List.length (Tab.Rows t)) - i < k57 := hk55
    obtain ⟨k57q, rfl⟩ : ∃ k, k57 = k + 1 := ⟨k57 - 1, by omega⟩
    refine AW.seq (AW.seq (AW.wf_arr (id := 40) (ep := 1) (t := (.slice (.named 1))) (xs := (rows : List (List Val))) (by kernel_rfl) fun ha58 _ => ?_))
    replace ha58 : ((List.length rows : Nat) : Int) ≤ 4294967296 := ha58
    refine AW.r1 hC [1, 3, 5, 6, 8, 9, 27] [12, 20, 24, 40] ⟨[(1, .int .i64 col), (3, .ref 12 1 0), (5, .ref 20 1 0), (6, .ref 24 1 0), (8, .arr 40 1), (9, .int .i64 ((i : Nat) : Int)), (27, .bool (decide (((i : Nat) : Int) < ((List.length (Tab.Rows t) : Nat) : Int))))], [(12, .box 1 [.int .i64 (Tab.Width t), .data (.slice (.slice (.named 1))) ((Tab.Rows t) : List (List Val))]), (20, .box 1 [.int .i64 (Rng.Low r), .int .i64 (Rng.High r)]), (24, .box 1 [.int .i64 0, .nilsl]), (40, .arr 1 (.slice (.named 1)) (rows : List (List Val)))]⟩ ?_
    refine AW.cd (decide (((i : Nat) : Int) < ((List.length (Tab.Rows t) : Nat) : Int))) ?_ ?_
    ·
     intro h59
     have h59q : ((i : Nat) : Int) < ((List.length (Tab.Rows t) : Nat) : Int) := (of_decide_eq_true h59)
     have e60 := e56.trans (Go.Am.bif_t h59)
     refine AW.kp [1, 3, 5, 6, 8, 9] [12, 20, 24, 40] ⟨[(1, .int .i64 col), (3, .ref 12 1 0), (5, .ref 20 1 0), (6, .ref 24 1 0), (8, .arr 40 1), (9, .int .i64 ((i : Nat) : Int))], [(12, .box 1 [.int .i64 (Tab.Width t), .data (.slice (.slice (.named 1))) ((Tab.Rows t) : List (List Val))]), (20, .box 1 [.int .i64 (Rng.Low r), .int .i64 (Rng.High r)]), (24, .box 1 [.int .i64 0, .nilsl]), (40, .arr 1 (.slice (.named 1)) (rows : List (List Val)))]⟩ ?_
     refine AW.skip (AW.seq (AW.block (AW.seq (AW.wf_arr (id := 40) (ep := 1) (t := (.slice (.named 1))) (xs := (rows : List (List Val))) (by kernel_rfl) fun ha61 _ => ?_))))
     replace ha61 : ((List.length rows : Nat) : Int) ≤ 4294967296 := ha61
     refine AW.d0 hC hM [1, 3, 5, 6, 8, 9, 55] [12, 20, 24, 40] ⟨[(1, .int .i64 col), (3, .ref 12 1 0), (5, .ref 20 1 0), (6, .ref 24 1 0), (8, .arr 40 1), (9, .int .i64 ((i : Nat) : Int)), (55, .bool (bif (!(Val.Null (List.getD (List.getD (Tab.Rows t) i []) (Int.toNat col) Val.zero))) then (inRange (Val.N (List.getD (List.getD (Tab.Rows t) i []) (Int.toNat col) Val.zero)) (Rng.Low r) (Rng.High r)) else false))], [(12, .box 1 [.int .i64 (Tab.Width t), .data (.slice (.slice (.named 1))) ((Tab.Rows t) : List (List Val))]), (20, .box 1 [.int .i64 (Rng.Low r), .int .i64 (Rng.High r)]), (24, .box 1 [.int .i64 0, .nilsl]), (40, .arr 1 (.slice (.named 1)) (rows : List (List Val)))]⟩ [(0 ≤ ((i : Nat) : Int) ∧ ((i : Nat) : Int) < ((List.length (Tab.Rows t) : Nat) : Int)), (0 ≤ col ∧ col < ((List.length (List.getD (Tab.Rows t) i []) : Nat) : Int)), (((!(Val.Null (List.getD (List.getD (Tab.Rows t) i []) (Int.toNat col) Val.zero))) = true) → (((!(Val.Null (List.getD (List.getD (Tab.Rows t) i []) (Int.toNat col) Val.zero))) = true))), (((!(Val.Null (List.getD (List.getD (Tab.Rows t) i []) (Int.toNat col) Val.zero))) = true) → (((!(Val.Null (List.getD (List.getD (Tab.Rows t) i []) (Int.toNat col) Val.zero))) = true))), (((!(Val.Null (List.getD (List.getD (Tab.Rows t) i []) (Int.toNat col) Val.zero))) = true) → (((!(Val.Null (List.getD (List.getD (Tab.Rows t) i []) (Int.toNat col) Val.zero))) = true))), (((!(Val.Null (List.getD (List.getD (Tab.Rows t) i []) (Int.toNat col) Val.zero))) = true) → (0 ≤ ((i : Nat) : Int) ∧ ((i : Nat) : Int) < ((List.length (Tab.Rows t) : Nat) : Int))), (((!(Val.Null (List.getD (List.getD (Tab.Rows t) i []) (Int.toNat col) Val.zero))) = true) → (((!(Val.Null (List.getD (List.getD (Tab.Rows t) i []) (Int.toNat col) Val.zero))) = true))), (((!(Val.Null (List.getD (List.getD (Tab.Rows t) i []) (Int.toNat col) Val.zero))) = true) → (((!(Val.Null (List.getD (List.getD (Tab.Rows t) i []) (Int.toNat col) Val.zero))) = true))), (((!(Val.Null (List.getD (List.getD (Tab.Rows t) i []) (Int.toNat col) Val.zero))) = true) → (((!(Val.Null (List.getD (List.getD (Tab.Rows t) i []) (Int.toNat col) Val.zero))) = true))), (((!(Val.Null (List.getD (List.getD (Tab.Rows t) i []) (Int.toNat col) Val.zero))) = true) → (0 ≤ col ∧ col < ((List.length (List.getD (Tab.Rows t) i []) : Nat) : Int))), (((!(Val.Null (List.getD (List.getD (Tab.Rows t) i []) (Int.toNat col) Val.zero))) = true) → (((!(Val.Null (List.getD (List.getD (Tab.Rows t) i []) (Int.toNat col) Val.zero))) = true))), (((!(Val.Null (List.getD (List.getD (Tab.Rows t) i []) (Int.toNat col) Val.zero))) = true) → (((!(Val.Null (List.getD (List.getD (Tab.Rows t) i []) (Int.toNat col) Val.zero))) = true))), (((!(Val.Null (List.getD (List.getD (Tab.Rows t) i []) (Int.toNat col) Val.zero))) = true) → (((!(Val.Null (List.getD (List.getD (Tab.Rows t) i []) (Int.toNat col) Val.zero))) = true))), (((!(Val.Null (List.getD (List.getD (Tab.Rows t) i []) (Int.toNat col) Val.zero))) = true) → (((!(Val.Null (List.getD (List.getD (Tab.Rows t) i []) (Int.toNat col) Val.zero))) = true))), (((!(Val.Null (List.getD (List.getD (Tab.Rows t) i []) (Int.toNat col) Val.zero))) = true) → (((!(Val.Null (List.getD (List.getD (Tab.Rows t) i []) (Int.toNat col) Val.zero))) = true))), (((!(Val.Null (List.getD (List.getD (Tab.Rows t) i []) (Int.toNat col) Val.zero))) = true) → (((!(Val.Null (List.getD (List.getD (Tab.Rows t) i []) (Int.toNat col) Val.zero))) = true))), (((!(Val.Null (List.getD (List.getD (Tab.Rows t) i []) (Int.toNat col) Val.zero))) = true) → (((!(Val.Null (List.getD (List.getD (Tab.Rows t) i []) (Int.toNat col) Val.zero))) = true))), (((!(Val.Null (List.getD (List.getD (Tab.Rows t) i []) (Int.toNat col) Val.zero))) = true) → (True)), (((!(Val.Null (List.getD (List.getD (Tab.Rows t) i []) (Int.toNat col) Val.zero))) = true) → (((!(Val.Null (List.getD (List.getD (Tab.Rows t) i []) (Int.toNat col) Val.zero))) = true)))] ?_ ?_
     ·
      refine ⟨?_, ?_, ?_, ?_, ?_, ?_, ?_, ?_, ?_, ?_, ?_, ?_, ?_, ?_, ?_, ?_, ?_, ?_, ?_, trivial⟩
      ·
       omega
      ·
       have := hsr.2 i (by omega)
       have := hsr.1
       omega
      ·
       intro g62
       have g62p0 : (Val.Null (List.getD (List.getD (Tab.Rows t) i []) (Int.toNat col) Val.zero)) = false := (Go.Am.not_pos g62)
       assumption
      ·
       intro g63
       have g63p0 : (Val.Null (List.getD (List.getD (Tab.Rows t) i []) (Int.toNat col) Val.zero)) = false := (Go.Am.not_pos g63)
       assumption
      ·
       intro g64
       have g64p0 : (Val.Null (List.getD (List.getD (Tab.Rows t) i []) (Int.toNat col) Val.zero)) = false := (Go.Am.not_pos g64)
       assumption
      ·
       intro g65
       have g65p0 : (Val.Null (List.getD (List.getD (Tab.Rows t) i []) (Int.toNat col) Val.zero)) = false := (Go.Am.not_pos g65)
       omega
      ·
       intro g66
       have g66p0 : (Val.Null (List.getD (List.getD (Tab.Rows t) i []) (Int.toNat col) Val.zero)) = false := (Go.Am.not_pos g66)
       assumption
      ·
       intro g67
       have g67p0 : (Val.Null (List.getD (List.getD (Tab.Rows t) i []) (Int.toNat col) Val.zero)) = false := (Go.Am.not_pos g67)
       assumption
      ·
       intro g68
       have g68p0 : (Val.Null (List.getD (List.getD (Tab.Rows t) i []) (Int.toNat col) Val.zero)) = false := (Go.Am.not_pos g68)
       assumption
      ·
       intro g69
       have g69p0 : (Val.Null (List.getD (List.getD (Tab.Rows t) i []) (Int.toNat col) Val.zero)) = false := (Go.Am.not_pos g69)
       have := hsr.2 i (by omega)
       have := hsr.1
       omega
      ·
       intro g70
       have g70p0 : (Val.Null (List.getD (List.getD (Tab.Rows t) i []) (Int.toNat col) Val.zero)) = false := (Go.Am.not_pos g70)
       assumption
      ·
       intro g71
       have g71p0 : (Val.Null (List.getD (List.getD (Tab.Rows t) i []) (Int.toNat col) Val.zero)) = false := (Go.Am.not_pos g71)
       assumption
      ·
       intro g72
       have g72p0 : (Val.Null (List.getD (List.getD (Tab.Rows t) i []) (Int.toNat col) Val.zero)) = false := (Go.Am.not_pos g72)
       assumption
      ·
       intro g73
       have g73p0 : (Val.Null (List.getD (List.getD (Tab.Rows t) i []) (Int.toNat col) Val.zero)) = false := (Go.Am.not_pos g73)
       assumption
      ·
       intro g74
       have g74p0 : (Val.Null (List.getD (List.getD (Tab.Rows t) i []) (Int.toNat col) Val.zero)) = false := (Go.Am.not_pos g74)
       assumption
      ·
       intro g75
       have g75p0 : (Val.Null (List.getD (List.getD (Tab.Rows t) i []) (Int.toNat col) Val.zero)) = false := (Go.Am.not_pos g75)
       assumption
      ·
       intro g76
       have g76p0 : (Val.Null (List.getD (List.getD (Tab.Rows t) i []) (Int.toNat col) Val.zero)) = false := (Go.Am.not_pos g76)
       assumption
      ·
       intro g77
       have g77p0 : (Val.Null (List.getD (List.getD (Tab.Rows t) i []) (Int.toNat col) Val.zero)) = false := (Go.Am.not_pos g77)
       trivial
      ·
       intro g78
       have g78p0 : (Val.Null (List.getD (List.getD (Tab.Rows t) i []) (Int.toNat col) Val.zero)) = false := (Go.Am.not_pos g78)
       assumption
     refine AW.cd (bif (!(Val.Null (List.getD (List.getD (Tab.Rows t) i []) (Int.toNat col) Val.zero))) then (inRange (Val.N (List.getD (List.getD (Tab.Rows t) i []) (Int.toNat col) Val.zero)) (Rng.Low r) (Rng.High r)) else false) ?_ ?_
     ·
      intro h79
      have h79q : ((Val.Null (List.getD (List.getD (Tab.Rows t) i []) (Int.toNat col) Val.zero)) = false) ∧ ((inRange (Val.N (List.getD (List.getD (Tab.Rows t) i []) (Int.toNat col) Val.zero)) (Rng.Low r) (Rng.High r)) = true) := (And.imp (fun h => (Go.Am.not_pos h)) (fun h => h) (Go.Am.and_pos h79))
      have e80 := e60.trans (Go.Am.bif_t h79)
      refine AW.wf_arr (id := 40) (ep := 1) (t := (.slice (.named 1))) (xs := (rows : List (List Val))) (by kernel_rfl) fun ha81 _ => ?_
      replace ha81 : ((List.length rows : Nat) : Int) ≤ 4294967296 := ha81
      refine AW.r0 hC [1, 3, 5, 6, 8, 9] [12, 20, 24, 40] ⟨[(1, .int .i64 col), (3, .ref 12 1 0), (5, .ref 20 1 0), (6, .ref 24 1 0), (8, .arr 40 1), (9, .int .i64 ((i : Nat) : Int))], [(12, .box 1 [.int .i64 (Tab.Width t), .data (.slice (.slice (.named 1))) ((Tab.Rows t) : List (List Val))]), (20, .box 1 [.int .i64 (Rng.Low r), .int .i64 (Rng.High r)]), (24, .box 1 [.int .i64 0, .nilsl]), (40, .arr 1 (.slice (.named 1)) ((rows ++ ([(List.getD (Tab.Rows t) i [])] : List (List Val))) : List (List Val)))]⟩ [(0 ≤ ((i : Nat) : Int) ∧ ((i : Nat) : Int) < ((List.length (Tab.Rows t) : Nat) : Int)), (((List.length rows : Nat) : Int) + ((List.length ([(List.getD (Tab.Rows t) i [])] : List (List Val)) : Nat) : Int) ≤ 4294967296)] ?_ ?_
      ·
       refine ⟨?_, ?_, trivial⟩
       ·
        omega
       ·
        simp only [lens] at *; omega
      refine AW.wf_arr (id := 40) (ep := 1) (t := (.slice (.named 1))) (xs := ((rows ++ ([(List.getD (Tab.Rows t) i [])] : List (List Val))) : List (List Val))) (by kernel_rfl) fun ha82 _ => ?_
      replace ha82 : ((List.length (rows ++ ([(List.getD (Tab.Rows t) i [])] : List (List Val))) : Nat) : Int) ≤ 4294967296 := ha82
      refine AW.r0 hC [1, 3, 5, 6, 8, 9] [12, 20, 24, 40] ⟨[(1, .int .i64 col), (3, .ref 12 1 0), (5, .ref 20 1 0), (6, .ref 24 1 0), (8, .arr 40 1), (9, .int .i64 ((i + 1 : Nat) : Int))], [(12, .box 1 [.int .i64 (Tab.Width t), .data (.slice (.slice (.named 1))) ((Tab.Rows t) : List (List Val))]), (20, .box 1 [.int .i64 (Rng.Low r), .int .i64 (Rng.High r)]), (24, .box 1 [.int .i64 0, .nilsl]), (40, .arr 1 (.slice (.named 1)) ((rows ++ ([(List.getD (Tab.Rows t) i [])] : List (List Val))) : List (List Val)))]⟩ [(-9223372036854775808 ≤ ((i + 1 : Nat) : Int) ∧ ((i + 1 : Nat) : Int) ≤ 9223372036854775807)] ?_ ?_
      ·
       refine ⟨?_, trivial⟩
       ·
        omega
      refine AW.back (x := (i, rows)) (i + 1, (rows ++ ([(List.getD (Tab.Rows t) i [])] : List (List Val)))) (by kernel_rfl) ⟨?_, k57q, ?_, e80⟩ ?_
      ·
       show ((∀ r ∈ (rows ++ ([(List.getD (Tab.Rows t) i [])] : List (List Val))), r ∈ t.Rows) ∧ List.length (rows ++ ([(List.getD (Tab.Rows t) i [])] : List (List Val))) ≤ (i + 1)) ∧ (i + 1) ≤ List.length t.Rows
       exact ⟨inv_app hI0.1 (by omega), by omega⟩
      ·
       show (List.length (Tab.Rows t)) - (i + 1) < k57q
       omega
      ·
       show (List.length (Tab.Rows t)) - (i + 1) < (List.length (Tab.Rows t)) - i
       omega
     ·
      intro h83
      have h83q : ((Val.Null (List.getD (List.getD (Tab.Rows t) i []) (Int.toNat col) Val.zero)) = true) ∨ ((inRange (Val.N (List.getD (List.getD (Tab.Rows t) i []) (Int.toNat col) Val.zero)) (Rng.Low r) (Rng.High r)) = false) := (Or.imp (fun h => (Go.Am.not_neg h)) (fun h => h) (Go.Am.and_neg h83))
      have e84 := e60.trans (Go.Am.bif_f h83)
      refine AW.kp [1, 3, 5, 6, 8, 9] [12, 20, 24, 40] ⟨[(1, .int .i64 col), (3, .ref 12 1 0), (5, .ref 20 1 0), (6, .ref 24 1 0), (8, .arr 40 1), (9, .int .i64 ((i : Nat) : Int))], [(12, .box 1 [.int .i64 (Tab.Width t), .data (.slice (.slice (.named 1))) ((Tab.Rows t) : List (List Val))]), (20, .box 1 [.int .i64 (Rng.Low r), .int .i64 (Rng.High r)]), (24, .box 1 [.int .i64 0, .nilsl]), (40, .arr 1 (.slice (.named 1)) (rows : List (List Val)))]⟩ ?_
      refine AW.skip (AW.wf_arr (id := 40) (ep := 1) (t := (.slice (.named 1))) (xs := (rows : List (List Val))) (by kernel_rfl) fun ha85 _ => ?_)
      replace ha85 : ((List.length rows : Nat) : Int) ≤ 4294967296 := ha85
      refine AW.r0 hC [1, 3, 5, 6, 8, 9] [12, 20, 24, 40] ⟨[(1, .int .i64 col), (3, .ref 12 1 0), (5, .ref 20 1 0), (6, .ref 24 1 0), (8, .arr 40 1), (9, .int .i64 ((i + 1 : Nat) : Int))], [(12, .box 1 [.int .i64 (Tab.Width t), .data (.slice (.slice (.named 1))) ((Tab.Rows t) : List (List Val))]), (20, .box 1 [.int .i64 (Rng.Low r), .int .i64 (Rng.High r)]), (24, .box 1 [.int .i64 0, .nilsl]), (40, .arr 1 (.slice (.named 1)) (rows : List (List Val)))]⟩ [(-9223372036854775808 ≤ ((i + 1 : Nat) : Int) ∧ ((i + 1 : Nat) : Int) ≤ 9223372036854775807)] ?_ ?_
      ·
       refine ⟨?_, trivial⟩
       ·
        omega
      refine AW.back (x := (i, rows)) (i + 1, rows) (by kernel_rfl) ⟨?_, k57q, ?_, e84⟩ ?_
      ·
       show ((∀ r ∈ rows, r ∈ t.Rows) ∧ List.length rows ≤ (i + 1)) ∧ (i + 1) ≤ List.length t.Rows
       exact ⟨⟨hI0.1.1, by omega⟩, by omega⟩
      ·
       show (List.length (Tab.Rows t)) - (i + 1) < k57q
       omega
      ·
       show (List.length (Tab.Rows t)) - (i + 1) < (List.length (Tab.Rows t)) - i
       omega
    ·
     intro h86
     have h86q : ¬ (((i : Nat) : Int) < ((List.length (Tab.Rows t) : Nat) : Int)) := (of_decide_eq_false h86)
     have e87 := e56.trans (Go.Am.bif_f h86)
     refine AW.kp [3, 6, 8] [12, 24, 40] ⟨[(3, .ref 12 1 0), (6, .ref 24 1 0), (8, .arr 40 1)], [(12, .box 1 [.int .i64 (Tab.Width t), .data (.slice (.slice (.named 1))) ((Tab.Rows t) : List (List Val))]), (24, .box 1 [.int .i64 0, .nilsl]), (40, .arr 1 (.slice (.named 1)) (rows : List (List Val)))]⟩ ?_
     refine AW.exit ?_
     refine AW.meet rows (by kernel_rfl) ⟨?_, e87⟩
     show (∀ r ∈ rows, r ∈ t.Rows) ∧ List.length rows ≤ 400
     exact ⟨hI0.1.1, by omega⟩
  ·
   intro rows hR
   obtain ⟨hJ0, e88⟩ := hR
   replace hJ0 : (∀ r ∈ rows, r ∈ t.Rows) ∧ List.length rows ≤ 400 := hJ0
   have e89 := e14.trans (Go.Am.then_eq e88)
   refine AW.seq (AW.wf_arr (id := 40) (ep := 1) (t := (.slice (.named 1))) (xs := (rows : List (List Val))) (by kernel_rfl) fun ha90 _ => ?_)
   replace ha90 : ((List.length rows : Nat) : Int) ≤ 4294967296 := ha90
   refine AW.r0 hC [6, 7] [24] ⟨[(6, .ref 24 1 0), (7, .bool true)], [(24, .box 1 [.int .i64 (Tab.Width (tableOf (Tab.Width t) rows)), .data (.slice (.slice (.named 1))) ((Tab.Rows (tableOf (Tab.Width t) rows)) : List (List Val))])]⟩ [(∀ i : Nat, i < List.length rows → (List.length (List.getD rows i []) : Int) ≤ 1048576)] ?_ ?_
   ·
    refine ⟨?_, trivial⟩
    ·
     intro i hi
     have := (hok.len (hJ0.1 _ (getD_mem _ i [] hi))).2
     omega
   exact AW.ret (AW.retE (β := Tab × Bool) (fun v => [⟨(.named 2), v.1⟩, ⟨.bool, v.2⟩]) (fun v => []) (v := ((tableOf (Tab.Width t) rows), true)) e89 (by kernel_rfl) rfl rfl)

end
end Go.Proofs.Ytjcjpeckfikfkaa
