/-
  A part of the proof of this claim (AwC): what functions of the program compute, and plain facts of that. No conditions.
-/
import Derived.Test.YtjcjpeckfikfkaaAwB
set_option linter.all false
namespace Go.Proofs.Ytjcjpeckfikfkaa
open Go Go.Am
noncomputable section

def tableOf_l0 (rows : List (List Val)) : Nat → Nat → (List (List Val)) → (List (List Val))
 | 0, i, ar103 => ar103
 | k + 1, i, ar103 => (bif (decide (((i : Nat) : Int) < ((List.length rows : Nat) : Int))) then (tableOf_l0 rows k (i + 1) (insertRow ar103 (List.getD rows i []))) else ar103)

def tableOf (width : Int) (rows : List (List Val)) : Tab := (bif (decide (400 < ((List.length rows : Nat) : Int))) then (Tab.mk width ([] : List (List Val))) else (Go.Am.andThen (tableOf_l0 rows ((List.length rows) - 0 + 1) 0 ([] : List (List Val))) (fun z => (fun (ar103 : List (List Val)) => (Tab.mk width ar103)) z)))

def tableOf_sp : FnSpec := mkSpec [.val (.int .i64), .val (.slice (.slice (.named 1)))] [.val (.named 2)] (fun (width : Int) (rows : List (List Val)) => ∀ i : Nat, i < List.length rows → (List.length (List.getD rows i []) : Int) ≤ 1048576) (fun (width : Int) (rows : List (List Val)) => [⟨(.named 2), (tableOf width rows)⟩])

theorem tableOf_ok : FnOK Try.prog 66 tableOf_sp := by
 have hC : CtxOK Try.prog (mkCtx tyL [(99, insertRow_sp)]) := CtxOK.cons insertRow_ok (CtxOK.nil tyOK)
 have hM : Try.prog.follows .mixedOrders = true := Try.checked.mixed
 refine FnOK.of_body Try.func66 (by kernel_rfl) rfl (C := (mkCtx tyL [(99, insertRow_sp)])) hC.ty (by kernel_rfl) ?_
 intro (width : Int) (rows : List (List Val)) hwf hpre E
 have hpre : ∀ i : Nat, i < List.length rows → (List.length (List.getD rows i []) : Int) ≤ 1048576 := hpre
 have hw_width : Wf ⟨(.int .i64), (width : Int)⟩ := hwf _ (List.Mem.head _)
 have hr_width : -9223372036854775808 ≤ width ∧ width ≤ 9223372036854775807 := hw_width.int_inv
 have hw_rows : Wf ⟨(.slice (.slice (.named 1))), (rows : List (List Val))⟩ := hwf _ (List.Mem.tail _ (List.Mem.head _))
 have hl_rows : ((List.length rows : Nat) : Int) ≤ 9223372036854775807 := hw_rows.len
 have e0 : tableOf width rows = tableOf width rows := rfl
 refine AW.seq (AW.r1 hC [0, 1, 4] [16] ⟨[(0, .int .i64 width), (1, .data (.slice (.slice (.named 1))) (rows : List (List Val))), (4, .ref 16 1 0)], [(16, .box 1 [.int .i64 0, .nilsl])]⟩ ?_)
 refine AW.seq (AW.r1 hC [1, 4, 5] [16, 20] ⟨[(1, .data (.slice (.slice (.named 1))) (rows : List (List Val))), (4, .ref 16 1 0), (5, .ref 20 1 0)], [(16, .box 1 [.int .i64 0, .nilsl]), (20, .box 1 [.int .i64 width, .nilsl])]⟩ ?_)
 refine AW.seq (AW.seq (AW.r1 hC [1, 4, 5, 11] [16, 20] ⟨[(1, .data (.slice (.slice (.named 1))) (rows : List (List Val))), (4, .ref 16 1 0), (5, .ref 20 1 0), (11, .bool (decide (400 < ((List.length rows : Nat) : Int))))], [(16, .box 1 [.int .i64 0, .nilsl]), (20, .box 1 [.int .i64 width, .nilsl])]⟩ ?_))
 refine AW.cd (decide (400 < ((List.length rows : Nat) : Int))) ?_ ?_
 ·
  intro h1
  have h1q : 400 < ((List.length rows : Nat) : Int) := (of_decide_eq_true h1)
  have e2 := e0.trans (Go.Am.bif_t h1)
  refine AW.seq (AW.r1 hC [4] [16] ⟨[(4, .ref 16 1 0)], [(16, .box 1 [.int .i64 width, .nilsl])]⟩ ?_)
  exact AW.ret (AW.retE (β := Tab) (fun v => [⟨(.named 2), v⟩]) (fun v => []) (v := (Tab.mk width ([] : List (List Val)))) e2 (by kernel_rfl) rfl rfl)
 ·
  intro h3
  have h3q : ¬ (400 < ((List.length rows : Nat) : Int)) := (of_decide_eq_false h3)
  have e4 := e0.trans (Go.Am.bif_f h3)
  refine AW.kp [1, 4, 5] [16, 20] ⟨[(1, .data (.slice (.slice (.named 1))) (rows : List (List Val))), (4, .ref 16 1 0), (5, .ref 20 1 0)], [(16, .box 1 [.int .i64 0, .nilsl]), (20, .box 1 [.int .i64 width, .nilsl])]⟩ ?_
  refine AW.skip (AW.seq (AW.seq (AW.r1 hC [1, 4, 5, 6] [16, 20] ⟨[(1, .data (.slice (.slice (.named 1))) (rows : List (List Val))), (4, .ref 16 1 0), (5, .ref 20 1 0), (6, .int .i64 0)], [(16, .box 1 [.int .i64 0, .nilsl]), (20, .box 1 [.int .i64 width, .nilsl])]⟩ ?_)))
  refine AW.adoptB 20 1 1 103 [.int .i64 width, .nilsl] (.slice (.named 1)) (by kernel_rfl) (by kernel_rfl) (by kernel_rfl) ?_
  refine AW.kp [1, 4, 5, 6] [16, 20, 103] ⟨[(1, .data (.slice (.slice (.named 1))) (rows : List (List Val))), (4, .ref 16 1 0), (5, .ref 20 1 0), (6, .int .i64 0)], [(16, .box 1 [.int .i64 0, .nilsl]), (20, .box 1 [.int .i64 width, .arr 103 1]), (103, .arr 1 (.slice (.named 1)) (([] : List (List Val)) : List (List Val)))]⟩ ?_
  refine AW.cutQ (α := (List (List Val))) (fun x => ⟨[(4, .ref 16 1 0), (5, .ref 20 1 0)], [(16, .box 1 [.int .i64 0, .nilsl]), (20, .box 1 [.int .i64 width, .arr 103 1]), (103, .arr 1 (.slice (.named 1)) (x : List (List Val)))]⟩) (fun x => (List.length x ≤ 400) ∧ (tableOf_l0 rows ((List.length rows) - 0 + 1) 0 ([] : List (List Val))) = x) ?_ ?_
  ·
   skip
   refine AW.block (AW.loopR (α := Nat × (List (List Val))) (fun x => ⟨[(1, .data (.slice (.slice (.named 1))) (rows : List (List Val))), (4, .ref 16 1 0), (5, .ref 20 1 0), (6, .int .i64 ((x.1 : Nat) : Int))], [(16, .box 1 [.int .i64 0, .nilsl]), (20, .box 1 [.int .i64 width, .arr 103 1]), (103, .arr 1 (.slice (.named 1)) (x.2 : List (List Val)))]⟩) (fun x => (List.length x.2 = x.1 ∧ x.1 ≤ 400) ∧ ∃ k, (List.length rows) - x.1 < k ∧ (tableOf_l0 rows ((List.length rows) - 0 + 1) 0 ([] : List (List Val))) = tableOf_l0 rows k x.1 x.2) (fun x => (List.length rows) - x.1) (0, ([] : List (List Val))) (by kernel_rfl) ⟨?_, _, Nat.lt_succ_self _, rfl⟩ ?_)
   ·
    show List.length ([] : List (List Val)) = 0 ∧ 0 ≤ 400
    exact ⟨rfl, by omega⟩
   ·
    intro x hR
    obtain ⟨i, ar103⟩ := x
    obtain ⟨hI0, k23, hk21, e22⟩ := hR
    replace hI0 : List.length ar103 = i ∧ i ≤ 400 := hI0
    replace hk21 : (List.length rows) - i < k23 := hk21
    obtain ⟨k23q, rfl⟩ : ∃ k, k23 = k + 1 := ⟨k23 - 1, by omega⟩
    refine AW.seq (AW.seq (AW.r1 hC [1, 4, 5, 6, 16] [16, 20, 103] ⟨[(1, .data (.slice (.slice (.named 1))) (rows : List (List Val))), (4, .ref 16 1 0), (5, .ref 20 1 0), (6, .int .i64 ((i : Nat) : Int)), (16, .bool (decide (((i : Nat) : Int) < ((List.length rows : Nat) : Int))))], [(16, .box 1 [.int .i64 0, .nilsl]), (20, .box 1 [.int .i64 width, .arr 103 1]), (103, .arr 1 (.slice (.named 1)) (ar103 : List (List Val)))]⟩ ?_))
    refine AW.cd (decide (((i : Nat) : Int) < ((List.length rows : Nat) : Int))) ?_ ?_
    ·
     intro h24
     have h24q : ((i : Nat) : Int) < ((List.length rows : Nat) : Int) := (of_decide_eq_true h24)
     have e25 := e22.trans (Go.Am.bif_t h24)
     refine AW.kp [1, 4, 5, 6] [16, 20, 103] ⟨[(1, .data (.slice (.slice (.named 1))) (rows : List (List Val))), (4, .ref 16 1 0), (5, .ref 20 1 0), (6, .int .i64 ((i : Nat) : Int))], [(16, .box 1 [.int .i64 0, .nilsl]), (20, .box 1 [.int .i64 width, .arr 103 1]), (103, .arr 1 (.slice (.named 1)) (ar103 : List (List Val)))]⟩ ?_
     refine AW.skip (AW.seq (AW.block (AW.d0 hC hM [1, 4, 5, 6] [16, 20, 100] ⟨[(1, .data (.slice (.slice (.named 1))) (rows : List (List Val))), (4, .ref 16 1 0), (5, .ref 20 1 0), (6, .int .i64 ((i : Nat) : Int))], [(16, .box 1 [.int .i64 0, .nilsl]), (20, .box 1 [.int .i64 width, .arr 100 1]), (100, .arr 1 (.slice (.named 1)) ((insertRow ar103 (List.getD rows i [])) : List (List Val)))]⟩ [(0 ≤ ((i : Nat) : Int) ∧ ((i : Nat) : Int) < ((List.length rows : Nat) : Int)), ((List.length ar103 : Int) ≤ 1048576 ∧ (List.length (List.getD rows i []) : Int) ≤ 1048576)] ?_ ?_)))
     ·
      refine ⟨?_, ?_, trivial⟩
      ·
       omega
      ·
       exact ⟨by omega, hpre i (by omega)⟩
     refine AW.r0 hC [1, 4, 5, 6] [16, 20, 100] ⟨[(1, .data (.slice (.slice (.named 1))) (rows : List (List Val))), (4, .ref 16 1 0), (5, .ref 20 1 0), (6, .int .i64 ((i + 1 : Nat) : Int))], [(16, .box 1 [.int .i64 0, .nilsl]), (20, .box 1 [.int .i64 width, .arr 100 1]), (100, .arr 1 (.slice (.named 1)) ((insertRow ar103 (List.getD rows i [])) : List (List Val)))]⟩ [(-9223372036854775808 ≤ ((i + 1 : Nat) : Int) ∧ ((i + 1 : Nat) : Int) ≤ 9223372036854775807)] ?_ ?_
     ·
      refine ⟨?_, trivial⟩
      ·
       omega
     refine AW.backR (x := (i, ar103)) (i + 1, (insertRow ar103 (List.getD rows i []))) (Turn.of [1, 4, 5, 6] [16, 20, 100] [(100, 103)] [1, 4, 5, 6] [16, 20, 103] (by kernel_rfl)) ⟨?_, k23q, ?_, e25⟩ ?_
     ·
      show List.length (insertRow ar103 (List.getD rows i [])) = (i + 1) ∧ (i + 1) ≤ 400
      rw [insertRow_len]
      omega
     ·
      show (List.length rows) - (i + 1) < k23q
      omega
     ·
      show (List.length rows) - (i + 1) < (List.length rows) - i
      omega
    ·
     intro h26
     have h26q : ¬ (((i : Nat) : Int) < ((List.length rows : Nat) : Int)) := (of_decide_eq_false h26)
     have e27 := e22.trans (Go.Am.bif_f h26)
     refine AW.kp [4, 5] [16, 20, 103] ⟨[(4, .ref 16 1 0), (5, .ref 20 1 0)], [(16, .box 1 [.int .i64 0, .nilsl]), (20, .box 1 [.int .i64 width, .arr 103 1]), (103, .arr 1 (.slice (.named 1)) (ar103 : List (List Val)))]⟩ ?_
     refine AW.exit ?_
     refine AW.meet ar103 (by kernel_rfl) ⟨?_, e27⟩
     show List.length ar103 ≤ 400
     omega
  ·
   intro ar103 hR
   obtain ⟨hJ0, e28⟩ := hR
   replace hJ0 : List.length ar103 ≤ 400 := hJ0
   have e29 := e4.trans (Go.Am.then_eq e28)
   refine AW.seq (AW.r1 hC [4] [16, 103] ⟨[(4, .ref 16 1 0)], [(16, .box 1 [.int .i64 width, .arr 103 1]), (103, .arr 1 (.slice (.named 1)) (ar103 : List (List Val)))]⟩ ?_)
   exact AW.ret (AW.retE (β := Tab) (fun v => [⟨(.named 2), v⟩]) (fun v => []) (v := (Tab.mk width ar103)) e29 (by kernel_rfl) rfl rfl)

theorem getD_appendL (a b : List (List Val)) (i : Nat) : List.getD (a ++ b) i [] = if i < a.length then List.getD a i [] else List.getD b (i - a.length) [] := by
 simp only [List.getD_eq_getElem?_getD, List.getElem?_append]
 split <;> rfl

def RB (rows : List (List Val)) : Prop := ∀ i : Nat, i < List.length rows → (List.length (List.getD rows i []) : Int) ≤ 1048576

theorem RB.add {rows : List (List Val)} {r : List Val} (h : RB rows) (hr : (r.length : Int) ≤ 1048576) : RB (rows ++ [r]) := by
 intro i hi
 rw [getD_appendL]
 split
 ·
  exact h i (by omega)
 ·
  simp only [List.length_append, List.length_cons, List.length_nil] at hi
  rw [show i - rows.length = 0 by omega]
  exact hr

theorem RB_iff {rows : List (List Val)} : RB rows ↔ ∀ x ∈ rows, (x.length : Int) ≤ 1048576 := by
 constructor
 ·
  intro h x hx
  obtain ⟨i, hi, rfl⟩ := List.mem_iff_getElem.1 hx
  have := h i hi
  rwa [List.getD_eq_getElem?_getD, List.getElem?_eq_getElem hi] at this
 ·
  intro h i hi
  exact h _ (getD_mem rows i [] hi)

theorem mem_insertRow {rows : List (List Val)} {row x : List Val} (h : x ∈ insertRow rows row) : x ∈ rows ∨ x = row := by
 unfold insertRow at h
 dsimp only [Go.Am.andThen] at h
 simp only [List.nil_append, List.mem_append, List.mem_cons, List.not_mem_nil, or_false] at h
 rcases h with (h | h) | h
 ·
  exact .inl (List.mem_of_mem_take h)
 ·
  exact .inr h
 ·
  exact .inl (List.mem_of_mem_drop h)

theorem RB.insert {rows : List (List Val)} {r : List Val} (h : RB rows) (hr : (r.length : Int) ≤ 1048576) : RB (insertRow rows r) :=
 RB_iff.2 fun x hx => (mem_insertRow hx).elim (RB_iff.1 h x) fun e => e ▸ hr

theorem RB.nil : RB [] := fun i hi => absurd hi (Nat.not_lt_zero _)

def randomTable_l0 (width : Int) : Nat → Int → (List Int) → Int → (List (List Val)) → (List Int) × Int × (List (List Val))
 | 0, n, r0, r1, rows => (r0, r1, rows)
 | k + 1, n, r0, r1, rows => (bif (decide (0 < n)) then (randomTable_l0 width k (n - 1) (Rdr.b ((randomRow (Rdr.mk r0 r1) width).2)) (Rdr.p ((randomRow (Rdr.mk r0 r1) width).2)) (rows ++ ([((randomRow (Rdr.mk r0 r1) width).1)] : List (List Val)))) else (r0, r1, rows))

def randomTable (r : Rdr) (width : Int) (most : Int) : Tab × Rdr := (Go.Am.andThen (randomTable_l0 width (Int.toNat (pick (Rdr.b r) (Rdr.p r) (most + 1)) + 1) (pick (Rdr.b r) (Rdr.p r) (most + 1)) (Rdr.b r) ((Rdr.p r) + 1) ([] : List (List Val))) (fun z => (fun (r0 : List Int) (r1 : Int) (rows : List (List Val)) => ((tableOf width rows), (Rdr.mk r0 r1))) z.1 z.2.1 z.2.2))

def randomTable_sp : FnSpec := mkSpecB [.box 3, .val (.int .i64), .val (.int .i64)] [.val (.named 2)] (fun (r : Rdr) (width : Int) (most : Int) => (0 ≤ r.p ∧ r.p ≤ 1000000000000) ∧ width ≤ 100 ∧ (0 ≤ most ∧ most ≤ 99)) (fun (r : Rdr) (width : Int) (most : Int) => [⟨(.named 2), ((randomTable r width most).1)⟩]) (fun (r : Rdr) (width : Int) (most : Int) => [⟨(.named 3), ((randomTable r width most).2)⟩])

theorem randomTable_ok : FnOK Try.prog 105 randomTable_sp := by
 have hC : CtxOK Try.prog (mkCtx tyL [(56, pickS), (57, randomRow_sp), (66, tableOf_sp)]) := CtxOK.cons pickS_ok (CtxOK.cons randomRow_ok (CtxOK.cons tableOf_ok (CtxOK.nil tyOK)))
 refine FnOK.of_body Try.func105 (by kernel_rfl) rfl (C := (mkCtx tyL [(56, pickS), (57, randomRow_sp), (66, tableOf_sp)])) hC.ty (by kernel_rfl) ?_
 intro (r : Rdr) (width : Int) (most : Int) hwf hpre E
 have hpre : (0 ≤ r.p ∧ r.p ≤ 1000000000000) ∧ width ≤ 100 ∧ (0 ≤ most ∧ most ≤ 99) := hpre
 have hw_r : Wf ⟨(.named 3), (r : Rdr)⟩ := hwf _ (List.Mem.head _)
 have hl_r_b : ((List.length (Rdr.b r) : Nat) : Int) ≤ 9223372036854775807 := (hw_r.field (tv := ⟨(.slice (.int .u8)), Rdr.b r⟩) (List.Mem.head _)).len
 have hr_r_p : -9223372036854775808 ≤ Rdr.p r ∧ Rdr.p r ≤ 9223372036854775807 := (hw_r.field (tv := ⟨(.int .i64), Rdr.p r⟩) (List.Mem.tail _ (List.Mem.head _))).int_inv
 have hw_width : Wf ⟨(.int .i64), (width : Int)⟩ := hwf _ (List.Mem.tail _ (List.Mem.head _))
 have hr_width : -9223372036854775808 ≤ width ∧ width ≤ 9223372036854775807 := hw_width.int_inv
 have hw_most : Wf ⟨(.int .i64), (most : Int)⟩ := hwf _ (List.Mem.tail _ (List.Mem.tail _ (List.Mem.head _)))
 have hr_most : -9223372036854775808 ≤ most ∧ most ≤ 9223372036854775807 := hw_most.int_inv
 have e0 : randomTable r width most = randomTable r width most := rfl
 refine AW.seq (AW.r1 hC [0, 1, 2, 6] [0, 24] ⟨[(0, .ref 0 0 0), (1, .int .i64 width), (2, .int .i64 most), (6, .ref 24 1 0)], [(0, .box 0 [.data (.slice (.int .u8)) ((Rdr.b r) : List Int), .int .i64 (Rdr.p r)]), (24, .box 1 [.int .i64 0, .nilsl])]⟩ ?_)
 refine AW.seq (AW.r1 hC [0, 1, 2, 6, 7] [0, 24, 36] ⟨[(0, .ref 0 0 0), (1, .int .i64 width), (2, .int .i64 most), (6, .ref 24 1 0), (7, .arr 36 1)], [(0, .box 0 [.data (.slice (.int .u8)) ((Rdr.b r) : List Int), .int .i64 (Rdr.p r)]), (24, .box 1 [.int .i64 0, .nilsl]), (36, .arr 1 (.slice (.named 1)) (([] : List (List Val)) : List (List Val)))]⟩ ?_)
 refine AW.seq (AW.seq (AW.r0 hC [0, 1, 6, 7, 8] [0, 24, 36] ⟨[(0, .ref 0 0 0), (1, .int .i64 width), (6, .ref 24 1 0), (7, .arr 36 1), (8, .int .i64 (pick (Rdr.b r) (Rdr.p r) (most + 1)))], [(0, .box 0 [.data (.slice (.int .u8)) ((Rdr.b r) : List Int), .int .i64 ((Rdr.p r) + 1)]), (24, .box 1 [.int .i64 0, .nilsl]), (36, .arr 1 (.slice (.named 1)) (([] : List (List Val)) : List (List Val)))]⟩ [(-9223372036854775808 ≤ (most + 1) ∧ (most + 1) ≤ 9223372036854775807), (0 ≤ r.p ∧ r.p ≤ 1099511627776)] ?_ ?_))
 ·
  refine ⟨?_, ?_, trivial⟩
  ·
   omega
  ·
   omega
 refine AW.cutQ (α := (List Int) × Int × (List (List Val))) (fun x => ⟨[(1, .int .i64 width), (6, .ref 24 1 0), (7, .arr 36 1)], [(0, .box 0 [.data (.slice (.int .u8)) (x.1 : List Int), .int .i64 x.2.1]), (24, .box 1 [.int .i64 0, .nilsl]), (36, .arr 1 (.slice (.named 1)) (x.2.2 : List (List Val)))]⟩) (fun x => ((RB x.2.2 ∧ List.length x.2.2 ≤ 100) ∧ (0 ≤ x.2.1 ∧ x.2.1 ≤ r.p + 40000)) ∧ (randomTable_l0 width (Int.toNat (pick (Rdr.b r) (Rdr.p r) (most + 1)) + 1) (pick (Rdr.b r) (Rdr.p r) (most + 1)) (Rdr.b r) ((Rdr.p r) + 1) ([] : List (List Val))) = x) ?_ ?_
 ·
  skip
  refine AW.block (AW.loop (α := Int × (List Int) × Int × (List (List Val))) (fun x => ⟨[(0, .ref 0 0 0), (1, .int .i64 width), (6, .ref 24 1 0), (7, .arr 36 1), (8, .int .i64 x.1)], [(0, .box 0 [.data (.slice (.int .u8)) (x.2.1 : List Int), .int .i64 x.2.2.1]), (24, .box 1 [.int .i64 0, .nilsl]), (36, .arr 1 (.slice (.named 1)) (x.2.2.2 : List (List Val)))]⟩) (fun x => ((RB x.2.2.2 ∧ (List.length x.2.2.2 : Int) + x.1 ≤ 100 ∧ 0 ≤ x.1) ∧ (0 ≤ x.2.2.1 ∧ x.2.2.1 + 300 * x.1 ≤ r.p + 40000)) ∧ ∃ k, Int.toNat x.1 < k ∧ (randomTable_l0 width (Int.toNat (pick (Rdr.b r) (Rdr.p r) (most + 1)) + 1) (pick (Rdr.b r) (Rdr.p r) (most + 1)) (Rdr.b r) ((Rdr.p r) + 1) ([] : List (List Val))) = randomTable_l0 width k x.1 x.2.1 x.2.2.1 x.2.2.2) (fun x => Int.toNat x.1) ((pick (Rdr.b r) (Rdr.p r) (most + 1)), (Rdr.b r), ((Rdr.p r) + 1), ([] : List (List Val))) (by kernel_rfl) ⟨?_, _, Nat.lt_succ_self _, rfl⟩ ?_)
  ·
   show (RB ([] : List (List Val)) ∧ (List.length ([] : List (List Val)) : Int) + (pick (Rdr.b r) (Rdr.p r) (most + 1)) ≤ 100 ∧ 0 ≤ (pick (Rdr.b r) (Rdr.p r) (most + 1))) ∧ (0 ≤ ((Rdr.p r) + 1) ∧ ((Rdr.p r) + 1) + 300 * (pick (Rdr.b r) (Rdr.p r) (most + 1)) ≤ r.p + 40000)
   have := pick_ok (n := most + 1) r.b r.p (by omega)
   simp only [List.length_nil]
   exact ⟨⟨RB.nil, by omega, by omega⟩, by omega⟩
  ·
   intro x hR
   obtain ⟨n, r0, r1, rows⟩ := x
   obtain ⟨hI0, k15, hk13, e14⟩ := hR
   replace hI0 : (RB rows ∧ (List.length rows : Int) + n ≤ 100 ∧ 0 ≤ n) ∧ (0 ≤ r1 ∧ r1 + 300 * n ≤ r.p + 40000) := hI0
   replace hk13 : Int.toNat n < k15 := hk13
   obtain ⟨k15q, rfl⟩ : ∃ k, k15 = k + 1 := ⟨k15 - 1, by omega⟩
   have hrr := randomRow_p (Rdr.mk r0 r1) (width := width) (by omega)
   simp only at hrr
   refine AW.seq (AW.seq (AW.r1 hC [0, 1, 6, 7, 8, 15] [0, 24, 36] ⟨[(0, .ref 0 0 0), (1, .int .i64 width), (6, .ref 24 1 0), (7, .arr 36 1), (8, .int .i64 n), (15, .bool (decide (0 < n)))], [(0, .box 0 [.data (.slice (.int .u8)) (r0 : List Int), .int .i64 r1]), (24, .box 1 [.int .i64 0, .nilsl]), (36, .arr 1 (.slice (.named 1)) (rows : List (List Val)))]⟩ ?_))
   refine AW.cd (decide (0 < n)) ?_ ?_
   ·
    intro h16
    have h16q : 0 < n := (of_decide_eq_true h16)
    have e17 := e14.trans (Go.Am.bif_t h16)
    refine AW.kp [0, 1, 6, 7, 8] [0, 24, 36] ⟨[(0, .ref 0 0 0), (1, .int .i64 width), (6, .ref 24 1 0), (7, .arr 36 1), (8, .int .i64 n)], [(0, .box 0 [.data (.slice (.int .u8)) (r0 : List Int), .int .i64 r1]), (24, .box 1 [.int .i64 0, .nilsl]), (36, .arr 1 (.slice (.named 1)) (rows : List (List Val)))]⟩ ?_
    refine AW.skip (AW.seq (AW.block (AW.r0 hC [0, 1, 6, 7, 8] [0, 24, 36] ⟨[(0, .ref 0 0 0), (1, .int .i64 width), (6, .ref 24 1 0), (7, .arr 36 1), (8, .int .i64 n)], [(0, .box 0 [.data (.slice (.int .u8)) ((Rdr.b ((randomRow (Rdr.mk r0 r1) width).2)) : List Int), .int .i64 (Rdr.p ((randomRow (Rdr.mk r0 r1) width).2))]), (24, .box 1 [.int .i64 0, .nilsl]), (36, .arr 1 (.slice (.named 1)) ((rows ++ ([((randomRow (Rdr.mk r0 r1) width).1)] : List (List Val))) : List (List Val)))]⟩ [((0 ≤ (Rdr.mk r0 r1).p ∧ (Rdr.mk r0 r1).p ≤ 1000000100000) ∧ width ≤ 100), (((List.length rows : Nat) : Int) + ((List.length ([((randomRow (Rdr.mk r0 r1) width).1)] : List (List Val)) : Nat) : Int) ≤ 4294967296)] ?_ ?_)))
    ·
     refine ⟨?_, ?_, trivial⟩
     ·
      dsimp only; omega
     ·
      simp only [lens] at *; omega
    refine AW.r0 hC [0, 1, 6, 7, 8] [0, 24, 36] ⟨[(0, .ref 0 0 0), (1, .int .i64 width), (6, .ref 24 1 0), (7, .arr 36 1), (8, .int .i64 (n - 1))], [(0, .box 0 [.data (.slice (.int .u8)) ((Rdr.b ((randomRow (Rdr.mk r0 r1) width).2)) : List Int), .int .i64 (Rdr.p ((randomRow (Rdr.mk r0 r1) width).2))]), (24, .box 1 [.int .i64 0, .nilsl]), (36, .arr 1 (.slice (.named 1)) ((rows ++ ([((randomRow (Rdr.mk r0 r1) width).1)] : List (List Val))) : List (List Val)))]⟩ [(-9223372036854775808 ≤ (n - 1) ∧ (n - 1) ≤ 9223372036854775807)] ?_ ?_
    ·
     refine ⟨?_, trivial⟩
     ·
      omega
    refine AW.back (x := (n, r0, r1, rows)) ((n - 1), (Rdr.b ((randomRow (Rdr.mk r0 r1) width).2)), (Rdr.p ((randomRow (Rdr.mk r0 r1) width).2)), (rows ++ ([((randomRow (Rdr.mk r0 r1) width).1)] : List (List Val)))) (by kernel_rfl) ⟨?_, k15q, ?_, e17⟩ ?_
    ·
     show (RB (rows ++ ([((randomRow (Rdr.mk r0 r1) width).1)] : List (List Val))) ∧ (List.length (rows ++ ([((randomRow (Rdr.mk r0 r1) width).1)] : List (List Val))) : Int) + (n - 1) ≤ 100 ∧ 0 ≤ (n - 1)) ∧ (0 ≤ (Rdr.p ((randomRow (Rdr.mk r0 r1) width).2)) ∧ (Rdr.p ((randomRow (Rdr.mk r0 r1) width).2)) + 300 * (n - 1) ≤ r.p + 40000)
     simp only [List.length_append, List.length_cons, List.length_nil]
     exact ⟨⟨hI0.1.1.add (by omega), by omega, by omega⟩, by omega⟩
    ·
     show Int.toNat (n - 1) < k15q
     omega
    ·
     show Int.toNat (n - 1) < Int.toNat n
     omega
   ·
    intro h18
    have h18q : ¬ (0 < n) := (of_decide_eq_false h18)
    have e19 := e14.trans (Go.Am.bif_f h18)
    refine AW.kp [1, 6, 7] [0, 24, 36] ⟨[(1, .int .i64 width), (6, .ref 24 1 0), (7, .arr 36 1)], [(0, .box 0 [.data (.slice (.int .u8)) (r0 : List Int), .int .i64 r1]), (24, .box 1 [.int .i64 0, .nilsl]), (36, .arr 1 (.slice (.named 1)) (rows : List (List Val)))]⟩ ?_
    refine AW.exit ?_
    refine AW.meet (r0, r1, rows) (by kernel_rfl) ⟨?_, e19⟩
    show (RB rows ∧ List.length rows ≤ 100) ∧ (0 ≤ r1 ∧ r1 ≤ r.p + 40000)
    exact ⟨⟨hI0.1.1, by omega⟩, by omega⟩
 ·
  intro x hR
  obtain ⟨r0, r1, rows⟩ := x
  obtain ⟨hJ0, e20⟩ := hR
  replace hJ0 : (RB rows ∧ List.length rows ≤ 100) ∧ (0 ≤ r1 ∧ r1 ≤ r.p + 40000) := hJ0
  have e21 := e0.trans (Go.Am.then_eq e20)
  refine AW.seq (AW.r0 hC [6] [0, 24] ⟨[(6, .ref 24 1 0)], [(0, .box 0 [.data (.slice (.int .u8)) (r0 : List Int), .int .i64 r1]), (24, .box 1 [.int .i64 (Tab.Width (tableOf width rows)), .data (.slice (.slice (.named 1))) ((Tab.Rows (tableOf width rows)) : List (List Val))])]⟩ [(∀ i : Nat, i < List.length rows → (List.length (List.getD rows i []) : Int) ≤ 1048576)] ?_ ?_)
  ·
   refine ⟨?_, trivial⟩
   ·
    exact hJ0.1.1
  exact AW.ret (AW.retE (β := Tab × Rdr) (fun v => [⟨(.named 2), v.1⟩]) (fun v => [⟨(.named 3), v.2⟩]) (v := ((tableOf width rows), (Rdr.mk r0 r1))) e21 (by kernel_rfl) rfl rfl)

end
end Go.Proofs.Ytjcjpeckfikfkaa
