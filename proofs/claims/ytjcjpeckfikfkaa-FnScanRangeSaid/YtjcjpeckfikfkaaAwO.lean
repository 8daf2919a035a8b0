/-
  A part of the proof of this claim (AwO): what functions of the program compute, and plain facts of that. No conditions.
-/
import Derived.Test.YtjcjpeckfikfkaaAwN
import Derived.Test.YtjcjpeckfikfkaaAwF
set_option linter.all false
namespace Go.Proofs.Ytjcjpeckfikfkaa
open Go Go.Am
noncomputable section

def countRow_l0 (rows : List (List Val)) (row : List Val) : Nat → Nat → Nat → Nat
 | 0, n, i => n
 | k + 1, n, i => (bif (decide (((i : Nat) : Int) < ((List.length rows : Nat) : Int))) then (bif ((compareRows (List.getD rows i []) row) == 0) then (countRow_l0 rows row k (n + 1) (i + 1)) else (countRow_l0 rows row k n (i + 1))) else n)

def countRow (rows : List (List Val)) (row : List Val) : Int := (Go.Am.andThen (countRow_l0 rows row ((List.length rows) - 0 + 1) 0 0) (fun z => (fun (n : Nat) => ((n : Nat) : Int)) z))

def countRow_sp : FnSpec := mkSpec [.val (.slice (.slice (.named 1))), .val (.slice (.named 1))] [.val (.int .i64)] (fun (rows : List (List Val)) (row : List Val) => List.length rows ≤ 400) (fun (rows : List (List Val)) (row : List Val) => [⟨(.int .i64), (countRow rows row)⟩])

theorem countRow_ok : FnOK Try.prog 78 countRow_sp := by
 have hC : CtxOK Try.prog (mkCtx tyL [(106, compareRows_sp)]) := CtxOK.cons compareRows_ok (CtxOK.nil tyOK)
 refine FnOK.of_body Try.func78 (by kernel_rfl) rfl (C := (mkCtx tyL [(106, compareRows_sp)])) hC.ty (by kernel_rfl) ?_
 intro (rows : List (List Val)) (row : List Val) hwf hpre E
 have hpre : List.length rows ≤ 400 := hpre
 have hw_rows : Wf ⟨(.slice (.slice (.named 1))), (rows : List (List Val))⟩ := hwf _ (List.Mem.head _)
 have hl_rows : ((List.length rows : Nat) : Int) ≤ 9223372036854775807 := hw_rows.len
 have hw_row : Wf ⟨(.slice (.named 1)), (row : List Val)⟩ := hwf _ (List.Mem.tail _ (List.Mem.head _))
 have hl_row : ((List.length row : Nat) : Int) ≤ 9223372036854775807 := hw_row.len
 have e0 : countRow rows row = countRow rows row := rfl
 refine AW.seq (AW.r1 hC [0, 1] [] ⟨[(0, .data (.slice (.slice (.named 1))) (rows : List (List Val))), (1, .data (.slice (.named 1)) (row : List Val))], []⟩ ?_)
 refine AW.seq (AW.r1 hC [0, 1, 5] [] ⟨[(0, .data (.slice (.slice (.named 1))) (rows : List (List Val))), (1, .data (.slice (.named 1)) (row : List Val)), (5, .int .i64 0)], []⟩ ?_)
 refine AW.seq (AW.seq (AW.r1 hC [0, 1, 5, 6] [] ⟨[(0, .data (.slice (.slice (.named 1))) (rows : List (List Val))), (1, .data (.slice (.named 1)) (row : List Val)), (5, .int .i64 0), (6, .int .i64 0)], []⟩ ?_))
 refine AW.cutQ (α := Nat) (fun x => ⟨[(5, .int .i64 ((x : Nat) : Int))], []⟩) (fun x => (True) ∧ (countRow_l0 rows row ((List.length rows) - 0 + 1) 0 0) = x) ?_ ?_
 ·
  skip
  refine AW.block (AW.loop (α := Nat × Nat) (fun x => ⟨[(0, .data (.slice (.slice (.named 1))) (rows : List (List Val))), (1, .data (.slice (.named 1)) (row : List Val)), (5, .int .i64 ((x.1 : Nat) : Int)), (6, .int .i64 ((x.2 : Nat) : Int))], []⟩) (fun x => (x.1 ≤ x.2) ∧ ∃ k, (List.length rows) - x.2 < k ∧ (countRow_l0 rows row ((List.length rows) - 0 + 1) 0 0) = countRow_l0 rows row k x.1 x.2) (fun x => (List.length rows) - x.2) (0, 0) (by kernel_rfl) ⟨?_, _, Nat.lt_succ_self _, rfl⟩ ?_)
  ·
   show 0 ≤ 0
   omega
  ·
   intro x hR
   obtain ⟨n, i⟩ := x
   obtain ⟨hI0, k27, hk25, e26⟩ := hR
   replace hI0 : n ≤ i := hI0
   replace hk25 : (List.length rows) - i < k27 := hk25
   obtain ⟨k27q, rfl⟩ : ∃ k, k27 = k + 1 := ⟨k27 - 1, by omega⟩
   refine AW.seq (AW.seq (AW.r1 hC [0, 1, 5, 6, 10] [] ⟨[(0, .data (.slice (.slice (.named 1))) (rows : List (List Val))), (1, .data (.slice (.named 1)) (row : List Val)), (5, .int .i64 ((n : Nat) : Int)), (6, .int .i64 ((i : Nat) : Int)), (10, .bool (decide (((i : Nat) : Int) < ((List.length rows : Nat) : Int))))], []⟩ ?_))
   refine AW.cd (decide (((i : Nat) : Int) < ((List.length rows : Nat) : Int))) ?_ ?_
   ·
    intro h28
    have h28q : ((i : Nat) : Int) < ((List.length rows : Nat) : Int) := (of_decide_eq_true h28)
    have e29 := e26.trans (Go.Am.bif_t h28)
    refine AW.kp [0, 1, 5, 6] [] ⟨[(0, .data (.slice (.slice (.named 1))) (rows : List (List Val))), (1, .data (.slice (.named 1)) (row : List Val)), (5, .int .i64 ((n : Nat) : Int)), (6, .int .i64 ((i : Nat) : Int))], []⟩ ?_
    refine AW.skip (AW.seq (AW.block (AW.seq (AW.r0 hC [0, 1, 5, 6, 19] [] ⟨[(0, .data (.slice (.slice (.named 1))) (rows : List (List Val))), (1, .data (.slice (.named 1)) (row : List Val)), (5, .int .i64 ((n : Nat) : Int)), (6, .int .i64 ((i : Nat) : Int)), (19, .bool ((compareRows (List.getD rows i []) row) == 0))], []⟩ [(0 ≤ ((i : Nat) : Int) ∧ ((i : Nat) : Int) < ((List.length rows : Nat) : Int)), (True)] ?_ ?_))))
    ·
     refine ⟨?_, ?_, trivial⟩
     ·
      omega
     ·
      trivial
    refine AW.cd ((compareRows (List.getD rows i []) row) == 0) ?_ ?_
    ·
     intro h30
     have h30q : (compareRows (List.getD rows i []) row) = 0 := (Go.Am.beq_pos h30)
     have e31 := e29.trans (Go.Am.bif_t h30)
     refine AW.r0 hC [0, 1, 5, 6] [] ⟨[(0, .data (.slice (.slice (.named 1))) (rows : List (List Val))), (1, .data (.slice (.named 1)) (row : List Val)), (5, .int .i64 ((n + 1 : Nat) : Int)), (6, .int .i64 ((i : Nat) : Int))], []⟩ [(-9223372036854775808 ≤ ((n + 1 : Nat) : Int) ∧ ((n + 1 : Nat) : Int) ≤ 9223372036854775807)] ?_ ?_
     ·
      refine ⟨?_, trivial⟩
      ·
       omega
     refine AW.r0 hC [0, 1, 5, 6] [] ⟨[(0, .data (.slice (.slice (.named 1))) (rows : List (List Val))), (1, .data (.slice (.named 1)) (row : List Val)), (5, .int .i64 ((n + 1 : Nat) : Int)), (6, .int .i64 ((i + 1 : Nat) : Int))], []⟩ [(-9223372036854775808 ≤ ((i + 1 : Nat) : Int) ∧ ((i + 1 : Nat) : Int) ≤ 9223372036854775807)] ?_ ?_
     ·
      refine ⟨?_, trivial⟩
      ·
       omega
     refine AW.back (x := (n, i)) (n + 1, i + 1) (by kernel_rfl) ⟨?_, k27q, ?_, e31⟩ ?_
     ·
      show (n + 1) ≤ (i + 1)
      omega
     ·
      show (List.length rows) - (i + 1) < k27q
      omega
     ·
      show (List.length rows) - (i + 1) < (List.length rows) - i
      omega
    ·
     intro h32
     have h32q : (compareRows (List.getD rows i []) row) ≠ 0 := (Go.Am.beq_neg h32)
     have e33 := e29.trans (Go.Am.bif_f h32)
     refine AW.kp [0, 1, 5, 6] [] ⟨[(0, .data (.slice (.slice (.named 1))) (rows : List (List Val))), (1, .data (.slice (.named 1)) (row : List Val)), (5, .int .i64 ((n : Nat) : Int)), (6, .int .i64 ((i : Nat) : Int))], []⟩ ?_
     refine AW.skip (AW.r0 hC [0, 1, 5, 6] [] ⟨[(0, .data (.slice (.slice (.named 1))) (rows : List (List Val))), (1, .data (.slice (.named 1)) (row : List Val)), (5, .int .i64 ((n : Nat) : Int)), (6, .int .i64 ((i + 1 : Nat) : Int))], []⟩ [(-9223372036854775808 ≤ ((i + 1 : Nat) : Int) ∧ ((i + 1 : Nat) : Int) ≤ 9223372036854775807)] ?_ ?_)
     ·
      refine ⟨?_, trivial⟩
      ·
       omega
     refine AW.back (x := (n, i)) (n, i + 1) (by kernel_rfl) ⟨?_, k27q, ?_, e33⟩ ?_
     ·
      show n ≤ (i + 1)
      omega
     ·
      show (List.length rows) - (i + 1) < k27q
      omega
     ·
      show (List.length rows) - (i + 1) < (List.length rows) - i
      omega
   ·
    intro h34
    have h34q : ¬ (((i : Nat) : Int) < ((List.length rows : Nat) : Int)) := (of_decide_eq_false h34)
    have e35 := e26.trans (Go.Am.bif_f h34)
    refine AW.kp [5] [] ⟨[(5, .int .i64 ((n : Nat) : Int))], []⟩ ?_
    refine AW.exit ?_
    refine AW.meet n (by kernel_rfl) ⟨?_, e35⟩
    show True
    trivial
 ·
  intro n hR
  obtain ⟨hJ0, e36⟩ := hR
  replace hJ0 : True := hJ0
  have e37 := e0.trans (Go.Am.then_eq e36)
  refine AW.seq (AW.r1 hC [4] [] ⟨[(4, .int .i64 ((n : Nat) : Int))], []⟩ ?_)
  exact AW.ret (AW.retE (β := Int) (fun v => [⟨(.int .i64), v⟩]) (fun v => []) (v := ((n : Nat) : Int)) e37 (by kernel_rfl) rfl rfl)

def sCountRow (t : Tab) (row : List Val) : Int := (bif (!(validTable t)) then (-1) else (countRow (Tab.Rows t) row))

def sCountRow_sp : FnSpec := mkSpec [.val (.named 2), .val (.slice (.named 1))] [.val (.int .i64)] (fun (t : Tab) (row : List Val) => True) (fun (t : Tab) (row : List Val) => [⟨(.int .i64), (sCountRow t row)⟩])

theorem sCountRow_ok : FnOK Try.prog 29 sCountRow_sp := by
 have hC : CtxOK Try.prog (mkCtx tyL [(77, validTable_sp), (78, countRow_sp)]) := CtxOK.cons validTable_ok (CtxOK.cons countRow_ok (CtxOK.nil tyOK))
 refine FnOK.of_body Try.func29 (by kernel_rfl) rfl (C := (mkCtx tyL [(77, validTable_sp), (78, countRow_sp)])) hC.ty (by kernel_rfl) ?_
 intro (t : Tab) (row : List Val) hwf hpre E
 have hpre : True := hpre
 have hw_t : Wf ⟨(.named 2), (t : Tab)⟩ := hwf _ (List.Mem.head _)
 have hr_t_Width : -9223372036854775808 ≤ Tab.Width t ∧ Tab.Width t ≤ 9223372036854775807 := (hw_t.field (tv := ⟨(.int .i64), Tab.Width t⟩) (List.Mem.head _)).int_inv
 have hl_t_Rows : ((List.length (Tab.Rows t) : Nat) : Int) ≤ 9223372036854775807 := (hw_t.field (tv := ⟨(.slice (.slice (.named 1))), Tab.Rows t⟩) (List.Mem.tail _ (List.Mem.head _))).len
 have hw_row : Wf ⟨(.slice (.named 1)), (row : List Val)⟩ := hwf _ (List.Mem.tail _ (List.Mem.head _))
 have hl_row : ((List.length row : Nat) : Int) ≤ 9223372036854775807 := hw_row.len
 have e0 : sCountRow t row = sCountRow t row := rfl
 refine AW.seq (AW.r1 hC [1, 2] [8] ⟨[(1, .data (.slice (.named 1)) (row : List Val)), (2, .ref 8 1 0)], [(8, .box 1 [.int .i64 (Tab.Width t), .data (.slice (.slice (.named 1))) ((Tab.Rows t) : List (List Val))])]⟩ ?_)
 refine AW.seq (AW.seq (AW.r0 hC [1, 2, 7] [8] ⟨[(1, .data (.slice (.named 1)) (row : List Val)), (2, .ref 8 1 0), (7, .bool (!(validTable t)))], [(8, .box 1 [.int .i64 (Tab.Width t), .data (.slice (.slice (.named 1))) ((Tab.Rows t) : List (List Val))])]⟩ [(True)] ?_ ?_))
 ·
  refine ⟨?_, trivial⟩
  ·
   trivial
 refine AW.cd (!(validTable t)) ?_ ?_
 ·
  intro h1
  have h1q : (validTable t) = false := (Go.Am.not_pos h1)
  have e2 := e0.trans (Go.Am.bif_t h1)
  refine AW.seq (AW.r1 hC [4] [] ⟨[(4, .int .i64 (-1))], []⟩ ?_)
  exact AW.ret (AW.retE (β := Int) (fun v => [⟨(.int .i64), v⟩]) (fun v => []) (v := (-1)) e2 (by kernel_rfl) rfl rfl)
 ·
  intro h3
  have h3q : (validTable t) = true := (Go.Am.not_neg h3)
  have e4 := e0.trans (Go.Am.bif_f h3)
  refine AW.kp [1, 2] [8] ⟨[(1, .data (.slice (.named 1)) (row : List Val)), (2, .ref 8 1 0)], [(8, .box 1 [.int .i64 (Tab.Width t), .data (.slice (.slice (.named 1))) ((Tab.Rows t) : List (List Val))])]⟩ ?_
  refine AW.skip (AW.seq (AW.r0 hC [4] [] ⟨[(4, .int .i64 (countRow (Tab.Rows t) row))], []⟩ [(List.length (Tab.Rows t) ≤ 400)] ?_ ?_))
  ·
   refine ⟨?_, trivial⟩
   ·
    exact (validTable_iff.1 h3q).n4
  exact AW.ret (AW.retE (β := Int) (fun v => [⟨(.int .i64), v⟩]) (fun v => []) (v := (countRow (Tab.Rows t) row)) e4 (by kernel_rfl) rfl rfl)

def distinctRows_l0 (t : Tab) : Nat → Nat → (List (List Val)) → (List (List Val))
 | 0, i, ar167 => ar167
 | k + 1, i, ar167 => (bif (decide (((i : Nat) : Int) < ((List.length (Tab.Rows t) : Nat) : Int))) then (bif (bif (((i : Nat) : Int) == 0) then true else ((compareRows (List.getD (Tab.Rows t) (Int.toNat (((i : Nat) : Int) - 1)) []) (List.getD (Tab.Rows t) i [])) != 0)) then (distinctRows_l0 t k (i + 1) (ar167 ++ ([(copyRow (List.getD (Tab.Rows t) i []))] : List (List Val)))) else (distinctRows_l0 t k (i + 1) ar167)) else ar167)

def distinctRows (t : Tab) : Tab := (Go.Am.andThen (distinctRows_l0 t ((List.length (Tab.Rows t)) - 0 + 1) 0 ([] : List (List Val))) (fun z => (fun (ar167 : List (List Val)) => (Tab.mk (Tab.Width t) ar167)) z))

def distinctRows_sp : FnSpec := mkSpec [.val (.named 2)] [.val (.named 2)] (fun (t : Tab) => List.length t.Rows ≤ 400 ∧ RowsOK t.Rows) (fun (t : Tab) => [⟨(.named 2), (distinctRows t)⟩])

theorem distinctRows_ok : FnOK Try.prog 80 distinctRows_sp := by
 have hC : CtxOK Try.prog (mkCtx tyL [(75, copyRow_sp), (106, compareRows_sp)]) := CtxOK.cons copyRow_ok (CtxOK.cons compareRows_ok (CtxOK.nil tyOK))
 have hM : Try.prog.follows .mixedOrders = true := Try.checked.mixed
 refine FnOK.of_body Try.func80 (by kernel_rfl) rfl (C := (mkCtx tyL [(75, copyRow_sp), (106, compareRows_sp)])) hC.ty (by kernel_rfl) ?_
 intro (t : Tab) hwf hpre E
 have hpre : List.length t.Rows ≤ 400 ∧ RowsOK t.Rows := hpre
 have hw_t : Wf ⟨(.named 2), (t : Tab)⟩ := hwf _ (List.Mem.head _)
 have hr_t_Width : -9223372036854775808 ≤ Tab.Width t ∧ Tab.Width t ≤ 9223372036854775807 := (hw_t.field (tv := ⟨(.int .i64), Tab.Width t⟩) (List.Mem.head _)).int_inv
 have hl_t_Rows : ((List.length (Tab.Rows t) : Nat) : Int) ≤ 9223372036854775807 := (hw_t.field (tv := ⟨(.slice (.slice (.named 1))), Tab.Rows t⟩) (List.Mem.tail _ (List.Mem.head _))).len
 have e0 : distinctRows t = distinctRows t := rfl
 refine AW.seq (AW.r1 hC [1, 2] [4, 8] ⟨[(1, .ref 4 1 0), (2, .ref 8 1 0)], [(4, .box 1 [.int .i64 (Tab.Width t), .data (.slice (.slice (.named 1))) ((Tab.Rows t) : List (List Val))]), (8, .box 1 [.int .i64 0, .nilsl])]⟩ ?_)
 refine AW.seq (AW.r1 hC [1, 2, 3] [4, 8, 12] ⟨[(1, .ref 4 1 0), (2, .ref 8 1 0), (3, .ref 12 1 0)], [(4, .box 1 [.int .i64 (Tab.Width t), .data (.slice (.slice (.named 1))) ((Tab.Rows t) : List (List Val))]), (8, .box 1 [.int .i64 0, .nilsl]), (12, .box 1 [.int .i64 (Tab.Width t), .nilsl])]⟩ ?_)
 refine AW.seq (AW.seq (AW.r1 hC [1, 2, 3, 4] [4, 8, 12] ⟨[(1, .ref 4 1 0), (2, .ref 8 1 0), (3, .ref 12 1 0), (4, .int .i64 0)], [(4, .box 1 [.int .i64 (Tab.Width t), .data (.slice (.slice (.named 1))) ((Tab.Rows t) : List (List Val))]), (8, .box 1 [.int .i64 0, .nilsl]), (12, .box 1 [.int .i64 (Tab.Width t), .nilsl])]⟩ ?_))
 refine AW.adoptB 12 1 1 167 [.int .i64 (Tab.Width t), .nilsl] (.slice (.named 1)) (by kernel_rfl) (by kernel_rfl) (by kernel_rfl) ?_
 refine AW.kp [1, 2, 3, 4] [4, 8, 12, 167] ⟨[(1, .ref 4 1 0), (2, .ref 8 1 0), (3, .ref 12 1 0), (4, .int .i64 0)], [(4, .box 1 [.int .i64 (Tab.Width t), .data (.slice (.slice (.named 1))) ((Tab.Rows t) : List (List Val))]), (8, .box 1 [.int .i64 0, .nilsl]), (12, .box 1 [.int .i64 (Tab.Width t), .arr 167 1]), (167, .arr 1 (.slice (.named 1)) (([] : List (List Val)) : List (List Val)))]⟩ ?_
 refine AW.cutQ (α := (List (List Val))) (fun x => ⟨[(2, .ref 8 1 0), (3, .ref 12 1 0)], [(8, .box 1 [.int .i64 0, .nilsl]), (12, .box 1 [.int .i64 (Tab.Width t), .arr 167 1]), (167, .arr 1 (.slice (.named 1)) (x : List (List Val)))]⟩) (fun x => (True) ∧ (distinctRows_l0 t ((List.length (Tab.Rows t)) - 0 + 1) 0 ([] : List (List Val))) = x) ?_ ?_
 ·
  skip
  refine AW.block (AW.loop (α := Nat × (List (List Val))) (fun x => ⟨[(1, .ref 4 1 0), (2, .ref 8 1 0), (3, .ref 12 1 0), (4, .int .i64 ((x.1 : Nat) : Int))], [(4, .box 1 [.int .i64 (Tab.Width t), .data (.slice (.slice (.named 1))) ((Tab.Rows t) : List (List Val))]), (8, .box 1 [.int .i64 0, .nilsl]), (12, .box 1 [.int .i64 (Tab.Width t), .arr 167 1]), (167, .arr 1 (.slice (.named 1)) (x.2 : List (List Val)))]⟩) (fun x => (List.length x.2 ≤ x.1) ∧ ∃ k, (List.length (Tab.Rows t)) - x.1 < k ∧ (distinctRows_l0 t ((List.length (Tab.Rows t)) - 0 + 1) 0 ([] : List (List Val))) = distinctRows_l0 t k x.1 x.2) (fun x => (List.length (Tab.Rows t)) - x.1) (0, ([] : List (List Val))) (by kernel_rfl) ⟨?_, _, Nat.lt_succ_self _, rfl⟩ ?_)
  ·
   show List.length ([] : List (List Val)) ≤ 0
   exact Nat.le_refl _
  ·
   intro x hR
   obtain ⟨i, ar167⟩ := x
   obtain ⟨hI0, k51, hk49, e50⟩ := hR
   replace hI0 : List.length ar167 ≤ i := hI0
   replace hk49 : (List.length (Tab.Rows t)) - i < k51 := hk49
   obtain ⟨k51q, rfl⟩ : ∃ k, k51 = k + 1 := ⟨k51 - 1, by omega⟩
   refine AW.seq (AW.seq (AW.wf_arr (id := 167) (ep := 1) (t := (.slice (.named 1))) (xs := (ar167 : List (List Val))) (by kernel_rfl) fun ha52 _ => ?_))
   replace ha52 : ((List.length ar167 : Nat) : Int) ≤ 4294967296 := ha52
   refine AW.r1 hC [1, 2, 3, 4, 12] [4, 8, 12, 167] ⟨[(1, .ref 4 1 0), (2, .ref 8 1 0), (3, .ref 12 1 0), (4, .int .i64 ((i : Nat) : Int)), (12, .bool (decide (((i : Nat) : Int) < ((List.length (Tab.Rows t) : Nat) : Int))))], [(4, .box 1 [.int .i64 (Tab.Width t), .data (.slice (.slice (.named 1))) ((Tab.Rows t) : List (List Val))]), (8, .box 1 [.int .i64 0, .nilsl]), (12, .box 1 [.int .i64 (Tab.Width t), .arr 167 1]), (167, .arr 1 (.slice (.named 1)) (ar167 : List (List Val)))]⟩ ?_
   refine AW.cd (decide (((i : Nat) : Int) < ((List.length (Tab.Rows t) : Nat) : Int))) ?_ ?_
   ·
    intro h53
    have h53q : ((i : Nat) : Int) < ((List.length (Tab.Rows t) : Nat) : Int) := (of_decide_eq_true h53)
    have e54 := e50.trans (Go.Am.bif_t h53)
    refine AW.kp [1, 2, 3, 4] [4, 8, 12, 167] ⟨[(1, .ref 4 1 0), (2, .ref 8 1 0), (3, .ref 12 1 0), (4, .int .i64 ((i : Nat) : Int))], [(4, .box 1 [.int .i64 (Tab.Width t), .data (.slice (.slice (.named 1))) ((Tab.Rows t) : List (List Val))]), (8, .box 1 [.int .i64 0, .nilsl]), (12, .box 1 [.int .i64 (Tab.Width t), .arr 167 1]), (167, .arr 1 (.slice (.named 1)) (ar167 : List (List Val)))]⟩ ?_
    refine AW.skip (AW.seq (AW.block (AW.seq (AW.wf_arr (id := 167) (ep := 1) (t := (.slice (.named 1))) (xs := (ar167 : List (List Val))) (by kernel_rfl) fun ha55 _ => ?_))))
    replace ha55 : ((List.length ar167 : Nat) : Int) ≤ 4294967296 := ha55
    refine AW.d0 hC hM [1, 2, 3, 4, 31] [4, 8, 12, 167] ⟨[(1, .ref 4 1 0), (2, .ref 8 1 0), (3, .ref 12 1 0), (4, .int .i64 ((i : Nat) : Int)), (31, .bool (bif (((i : Nat) : Int) == 0) then true else ((compareRows (List.getD (Tab.Rows t) (Int.toNat (((i : Nat) : Int) - 1)) []) (List.getD (Tab.Rows t) i [])) != 0)))], [(4, .box 1 [.int .i64 (Tab.Width t), .data (.slice (.slice (.named 1))) ((Tab.Rows t) : List (List Val))]), (8, .box 1 [.int .i64 0, .nilsl]), (12, .box 1 [.int .i64 (Tab.Width t), .arr 167 1]), (167, .arr 1 (.slice (.named 1)) (ar167 : List (List Val)))]⟩ [(((((i : Nat) : Int) == 0) = false) → (((((i : Nat) : Int) == 0) = false))), (((((i : Nat) : Int) == 0) = false) → (((((i : Nat) : Int) == 0) = false))), (((((i : Nat) : Int) == 0) = false) → (-9223372036854775808 ≤ (((i : Nat) : Int) - 1) ∧ (((i : Nat) : Int) - 1) ≤ 9223372036854775807)), (((((i : Nat) : Int) == 0) = false) → (((((i : Nat) : Int) == 0) = false))), (((((i : Nat) : Int) == 0) = false) → (((((i : Nat) : Int) == 0) = false))), (((((i : Nat) : Int) == 0) = false) → (0 ≤ (((i : Nat) : Int) - 1) ∧ (((i : Nat) : Int) - 1) < ((List.length (Tab.Rows t) : Nat) : Int))), (((((i : Nat) : Int) == 0) = false) → (((((i : Nat) : Int) == 0) = false))), (((((i : Nat) : Int) == 0) = false) → (((((i : Nat) : Int) == 0) = false))), (((((i : Nat) : Int) == 0) = false) → (((((i : Nat) : Int) == 0) = false))), (((((i : Nat) : Int) == 0) = false) → (((((i : Nat) : Int) == 0) = false))), (((((i : Nat) : Int) == 0) = false) → (0 ≤ ((i : Nat) : Int) ∧ ((i : Nat) : Int) < ((List.length (Tab.Rows t) : Nat) : Int))), (((((i : Nat) : Int) == 0) = false) → (((((i : Nat) : Int) == 0) = false))), (((((i : Nat) : Int) == 0) = false) → (((((i : Nat) : Int) == 0) = false))), (((((i : Nat) : Int) == 0) = false) → (((((i : Nat) : Int) == 0) = false))), (((((i : Nat) : Int) == 0) = false) → (True)), (((((i : Nat) : Int) == 0) = false) → (((((i : Nat) : Int) == 0) = false))), (((((i : Nat) : Int) == 0) = false) → (((((i : Nat) : Int) == 0) = false)))] ?_ ?_
    ·
     refine ⟨?_, ?_, ?_, ?_, ?_, ?_, ?_, ?_, ?_, ?_, ?_, ?_, ?_, ?_, ?_, ?_, ?_, trivial⟩
     ·
      intro g56
      have g56p0 : ((i : Nat) : Int) ≠ 0 := (Go.Am.beq_neg g56)
      assumption
     ·
      intro g57
      have g57p0 : ((i : Nat) : Int) ≠ 0 := (Go.Am.beq_neg g57)
      assumption
     ·
      intro g58
      have g58p0 : ((i : Nat) : Int) ≠ 0 := (Go.Am.beq_neg g58)
      omega
     ·
      intro g59
      have g59p0 : ((i : Nat) : Int) ≠ 0 := (Go.Am.beq_neg g59)
      assumption
     ·
      intro g60
      have g60p0 : ((i : Nat) : Int) ≠ 0 := (Go.Am.beq_neg g60)
      assumption
     ·
      intro g61
      have g61p0 : ((i : Nat) : Int) ≠ 0 := (Go.Am.beq_neg g61)
      omega
     ·
      intro g62
      have g62p0 : ((i : Nat) : Int) ≠ 0 := (Go.Am.beq_neg g62)
      assumption
     ·
      intro g63
      have g63p0 : ((i : Nat) : Int) ≠ 0 := (Go.Am.beq_neg g63)
      assumption
     ·
      intro g64
      have g64p0 : ((i : Nat) : Int) ≠ 0 := (Go.Am.beq_neg g64)
      assumption
     ·
      intro g65
      have g65p0 : ((i : Nat) : Int) ≠ 0 := (Go.Am.beq_neg g65)
      assumption
     ·
      intro g66
      have g66p0 : ((i : Nat) : Int) ≠ 0 := (Go.Am.beq_neg g66)
      omega
     ·
      intro g67
      have g67p0 : ((i : Nat) : Int) ≠ 0 := (Go.Am.beq_neg g67)
      assumption
     ·
      intro g68
      have g68p0 : ((i : Nat) : Int) ≠ 0 := (Go.Am.beq_neg g68)
      assumption
     ·
      intro g69
      have g69p0 : ((i : Nat) : Int) ≠ 0 := (Go.Am.beq_neg g69)
      assumption
     ·
      intro g70
      have g70p0 : ((i : Nat) : Int) ≠ 0 := (Go.Am.beq_neg g70)
      trivial
     ·
      intro g71
      have g71p0 : ((i : Nat) : Int) ≠ 0 := (Go.Am.beq_neg g71)
      assumption
     ·
      intro g72
      have g72p0 : ((i : Nat) : Int) ≠ 0 := (Go.Am.beq_neg g72)
      assumption
    refine AW.cd (bif (((i : Nat) : Int) == 0) then true else ((compareRows (List.getD (Tab.Rows t) (Int.toNat (((i : Nat) : Int) - 1)) []) (List.getD (Tab.Rows t) i [])) != 0)) ?_ ?_
    ·
     intro h73
     have h73q : (((i : Nat) : Int) = 0) ∨ ((compareRows (List.getD (Tab.Rows t) (Int.toNat (((i : Nat) : Int) - 1)) []) (List.getD (Tab.Rows t) i [])) ≠ 0) := (Or.imp (fun h => (Go.Am.beq_pos h)) (fun h => (Go.Am.bne_pos h)) (Go.Am.or_pos h73))
     have e74 := e54.trans (Go.Am.bif_t h73)
     refine AW.wf_arr (id := 167) (ep := 1) (t := (.slice (.named 1))) (xs := (ar167 : List (List Val))) (by kernel_rfl) fun ha75 _ => ?_
     replace ha75 : ((List.length ar167 : Nat) : Int) ≤ 4294967296 := ha75
     refine AW.d0 hC hM [1, 2, 3, 4] [4, 8, 12, 167] ⟨[(1, .ref 4 1 0), (2, .ref 8 1 0), (3, .ref 12 1 0), (4, .int .i64 ((i : Nat) : Int))], [(4, .box 1 [.int .i64 (Tab.Width t), .data (.slice (.slice (.named 1))) ((Tab.Rows t) : List (List Val))]), (8, .box 1 [.int .i64 0, .nilsl]), (12, .box 1 [.int .i64 (Tab.Width t), .arr 167 1]), (167, .arr 1 (.slice (.named 1)) ((ar167 ++ ([(copyRow (List.getD (Tab.Rows t) i []))] : List (List Val))) : List (List Val)))]⟩ [(0 ≤ ((i : Nat) : Int) ∧ ((i : Nat) : Int) < ((List.length (Tab.Rows t) : Nat) : Int)), ((List.length (List.getD (Tab.Rows t) i []) : Int) ≤ 1048576), (((List.length ar167 : Nat) : Int) + ((List.length ([(copyRow (List.getD (Tab.Rows t) i []))] : List (List Val)) : Nat) : Int) ≤ 4294967296)] ?_ ?_
     ·
      refine ⟨?_, ?_, ?_, trivial⟩
      ·
       omega
      ·
       have := (hpre.2.len (getD_mem t.Rows i [] (by omega))).2
       omega
      ·
       simp only [lens] at *; omega
     refine AW.wf_arr (id := 167) (ep := 1) (t := (.slice (.named 1))) (xs := ((ar167 ++ ([(copyRow (List.getD (Tab.Rows t) i []))] : List (List Val))) : List (List Val))) (by kernel_rfl) fun ha76 _ => ?_
     replace ha76 : ((List.length (ar167 ++ ([(copyRow (List.getD (Tab.Rows t) i []))] : List (List Val))) : Nat) : Int) ≤ 4294967296 := ha76
     refine AW.r0 hC [1, 2, 3, 4] [4, 8, 12, 167] ⟨[(1, .ref 4 1 0), (2, .ref 8 1 0), (3, .ref 12 1 0), (4, .int .i64 ((i + 1 : Nat) : Int))], [(4, .box 1 [.int .i64 (Tab.Width t), .data (.slice (.slice (.named 1))) ((Tab.Rows t) : List (List Val))]), (8, .box 1 [.int .i64 0, .nilsl]), (12, .box 1 [.int .i64 (Tab.Width t), .arr 167 1]), (167, .arr 1 (.slice (.named 1)) ((ar167 ++ ([(copyRow (List.getD (Tab.Rows t) i []))] : List (List Val))) : List (List Val)))]⟩ [(-9223372036854775808 ≤ ((i + 1 : Nat) : Int) ∧ ((i + 1 : Nat) : Int) ≤ 9223372036854775807)] ?_ ?_
     ·
      refine ⟨?_, trivial⟩
      ·
       omega
     refine AW.back (x := (i, ar167)) (i + 1, (ar167 ++ ([(copyRow (List.getD (Tab.Rows t) i []))] : List (List Val)))) (by kernel_rfl) ⟨?_, k51q, ?_, e74⟩ ?_
     ·
      show List.length (ar167 ++ ([(copyRow (List.getD (Tab.Rows t) i []))] : List (List Val))) ≤ (i + 1)
      simp only [List.length_append, List.length_cons, List.length_nil]; omega
     ·
      show (List.length (Tab.Rows t)) - (i + 1) < k51q
      omega
     ·
      show (List.length (Tab.Rows t)) - (i + 1) < (List.length (Tab.Rows t)) - i
      omega
    ·
     intro h77
     have h77q : (((i : Nat) : Int) ≠ 0) ∧ ((compareRows (List.getD (Tab.Rows t) (Int.toNat (((i : Nat) : Int) - 1)) []) (List.getD (Tab.Rows t) i [])) = 0) := (And.imp (fun h => (Go.Am.beq_neg h)) (fun h => (Go.Am.bne_neg h)) (Go.Am.or_neg h77))
     have e78 := e54.trans (Go.Am.bif_f h77)
     refine AW.kp [1, 2, 3, 4] [4, 8, 12, 167] ⟨[(1, .ref 4 1 0), (2, .ref 8 1 0), (3, .ref 12 1 0), (4, .int .i64 ((i : Nat) : Int))], [(4, .box 1 [.int .i64 (Tab.Width t), .data (.slice (.slice (.named 1))) ((Tab.Rows t) : List (List Val))]), (8, .box 1 [.int .i64 0, .nilsl]), (12, .box 1 [.int .i64 (Tab.Width t), .arr 167 1]), (167, .arr 1 (.slice (.named 1)) (ar167 : List (List Val)))]⟩ ?_
     refine AW.skip (AW.wf_arr (id := 167) (ep := 1) (t := (.slice (.named 1))) (xs := (ar167 : List (List Val))) (by kernel_rfl) fun ha79 _ => ?_)
     replace ha79 : ((List.length ar167 : Nat) : Int) ≤ 4294967296 := ha79
     refine AW.r0 hC [1, 2, 3, 4] [4, 8, 12, 167] ⟨[(1, .ref 4 1 0), (2, .ref 8 1 0), (3, .ref 12 1 0), (4, .int .i64 ((i + 1 : Nat) : Int))], [(4, .box 1 [.int .i64 (Tab.Width t), .data (.slice (.slice (.named 1))) ((Tab.Rows t) : List (List Val))]), (8, .box 1 [.int .i64 0, .nilsl]), (12, .box 1 [.int .i64 (Tab.Width t), .arr 167 1]), (167, .arr 1 (.slice (.named 1)) (ar167 : List (List Val)))]⟩ [(-9223372036854775808 ≤ ((i + 1 : Nat) : Int) ∧ ((i + 1 : Nat) : Int) ≤ 9223372036854775807)] ?_ ?_
     ·
      refine ⟨?_, trivial⟩
      ·
       omega
     refine AW.back (x := (i, ar167)) (i + 1, ar167) (by kernel_rfl) ⟨?_, k51q, ?_, e78⟩ ?_
     ·
      show List.length ar167 ≤ (i + 1)
      omega
     ·
      show (List.length (Tab.Rows t)) - (i + 1) < k51q
      omega
     ·
      show (List.length (Tab.Rows t)) - (i + 1) < (List.length (Tab.Rows t)) - i
      omega
   ·
    intro h80
    have h80q : ¬ (((i : Nat) : Int) < ((List.length (Tab.Rows t) : Nat) : Int)) := (of_decide_eq_false h80)
    have e81 := e50.trans (Go.Am.bif_f h80)
    refine AW.kp [2, 3] [8, 12, 167] ⟨[(2, .ref 8 1 0), (3, .ref 12 1 0)], [(8, .box 1 [.int .i64 0, .nilsl]), (12, .box 1 [.int .i64 (Tab.Width t), .arr 167 1]), (167, .arr 1 (.slice (.named 1)) (ar167 : List (List Val)))]⟩ ?_
    refine AW.exit ?_
    refine AW.meet ar167 (by kernel_rfl) ⟨?_, e81⟩
    show True
    trivial
 ·
  intro ar167 hR
  obtain ⟨hJ0, e82⟩ := hR
  replace hJ0 : True := hJ0
  have e83 := e0.trans (Go.Am.then_eq e82)
  refine AW.seq (AW.wf_arr (id := 167) (ep := 1) (t := (.slice (.named 1))) (xs := (ar167 : List (List Val))) (by kernel_rfl) fun ha84 _ => ?_)
  replace ha84 : ((List.length ar167 : Nat) : Int) ≤ 4294967296 := ha84
  refine AW.r1 hC [2] [8, 167] ⟨[(2, .ref 8 1 0)], [(8, .box 1 [.int .i64 (Tab.Width t), .arr 167 1]), (167, .arr 1 (.slice (.named 1)) (ar167 : List (List Val)))]⟩ ?_
  exact AW.ret (AW.retE (β := Tab) (fun v => [⟨(.named 2), v⟩]) (fun v => []) (v := (Tab.mk (Tab.Width t) ar167)) e83 (by kernel_rfl) rfl rfl)

def sDistinctRows (t : Tab) : Tab × Bool := (bif (!(validTable t)) then ((Tab.mk 0 ([] : List (List Val))), false) else ((distinctRows t), true))

def sDistinctRows_sp : FnSpec := mkSpec [.val (.named 2)] [.val (.named 2), .val .bool] (fun (t : Tab) => True) (fun (t : Tab) => [⟨(.named 2), ((sDistinctRows t).1)⟩, ⟨.bool, ((sDistinctRows t).2)⟩])

theorem sDistinctRows_ok : FnOK Try.prog 33 sDistinctRows_sp := by
 have hC : CtxOK Try.prog (mkCtx tyL [(77, validTable_sp), (80, distinctRows_sp)]) := CtxOK.cons validTable_ok (CtxOK.cons distinctRows_ok (CtxOK.nil tyOK))
 refine FnOK.of_body Try.func33 (by kernel_rfl) rfl (C := (mkCtx tyL [(77, validTable_sp), (80, distinctRows_sp)])) hC.ty (by kernel_rfl) ?_
 intro (t : Tab) hwf hpre E
 have hpre : True := hpre
 have hw_t : Wf ⟨(.named 2), (t : Tab)⟩ := hwf _ (List.Mem.head _)
 have hr_t_Width : -9223372036854775808 ≤ Tab.Width t ∧ Tab.Width t ≤ 9223372036854775807 := (hw_t.field (tv := ⟨(.int .i64), Tab.Width t⟩) (List.Mem.head _)).int_inv
 have hl_t_Rows : ((List.length (Tab.Rows t) : Nat) : Int) ≤ 9223372036854775807 := (hw_t.field (tv := ⟨(.slice (.slice (.named 1))), Tab.Rows t⟩) (List.Mem.tail _ (List.Mem.head _))).len
 have e0 : sDistinctRows t = sDistinctRows t := rfl
 refine AW.seq (AW.r1 hC [1, 2] [4, 8] ⟨[(1, .ref 4 1 0), (2, .ref 8 1 0)], [(4, .box 1 [.int .i64 (Tab.Width t), .data (.slice (.slice (.named 1))) ((Tab.Rows t) : List (List Val))]), (8, .box 1 [.int .i64 0, .nilsl])]⟩ ?_)
 refine AW.seq (AW.seq (AW.r0 hC [1, 2, 6] [4, 8] ⟨[(1, .ref 4 1 0), (2, .ref 8 1 0), (6, .bool (!(validTable t)))], [(4, .box 1 [.int .i64 (Tab.Width t), .data (.slice (.slice (.named 1))) ((Tab.Rows t) : List (List Val))]), (8, .box 1 [.int .i64 0, .nilsl])]⟩ [(True)] ?_ ?_))
 ·
  refine ⟨?_, trivial⟩
  ·
   trivial
 refine AW.cd (!(validTable t)) ?_ ?_
 ·
  intro h1
  have h1q : (validTable t) = false := (Go.Am.not_pos h1)
  have e2 := e0.trans (Go.Am.bif_t h1)
  refine AW.seq (AW.r1 hC [2, 3] [8] ⟨[(2, .ref 8 1 0), (3, .bool false)], [(8, .box 1 [.int .i64 0, .nilsl])]⟩ ?_)
  exact AW.ret (AW.retE (β := Tab × Bool) (fun v => [⟨(.named 2), v.1⟩, ⟨.bool, v.2⟩]) (fun v => []) (v := ((Tab.mk 0 ([] : List (List Val))), false)) e2 (by kernel_rfl) rfl rfl)
 ·
  intro h3
  have h3q : (validTable t) = true := (Go.Am.not_neg h3)
  have e4 := e0.trans (Go.Am.bif_f h3)
  refine AW.kp [1, 2] [4, 8] ⟨[(1, .ref 4 1 0), (2, .ref 8 1 0)], [(4, .box 1 [.int .i64 (Tab.Width t), .data (.slice (.slice (.named 1))) ((Tab.Rows t) : List (List Val))]), (8, .box 1 [.int .i64 0, .nilsl])]⟩ ?_
  refine AW.skip (AW.seq (AW.r0 hC [2, 3] [8] ⟨[(2, .ref 8 1 0), (3, .bool true)], [(8, .box 1 [.int .i64 (Tab.Width (distinctRows t)), .data (.slice (.slice (.named 1))) ((Tab.Rows (distinctRows t)) : List (List Val))])]⟩ [(List.length t.Rows ≤ 400 ∧ RowsOK t.Rows)] ?_ ?_))
  ·
   refine ⟨?_, trivial⟩
   ·
    exact ⟨(validTable_iff.1 h3q).n4, (validTable_iff.1 h3q).rowsOK⟩
  exact AW.ret (AW.retE (β := Tab × Bool) (fun v => [⟨(.named 2), v.1⟩, ⟨.bool, v.2⟩]) (fun v => []) (v := ((distinctRows t), true)) e4 (by kernel_rfl) rfl rfl)

def unionAll (a : Tab) (b : Tab) : Tab := (tableOf (Tab.Width a) ((([] : List (List Val)) ++ (Tab.Rows a)) ++ (Tab.Rows b)))

def unionAll_sp : FnSpec := mkSpec [.val (.named 2), .val (.named 2)] [.val (.named 2)] (fun (a : Tab) (b : Tab) => (List.length a.Rows ≤ 400 ∧ List.length b.Rows ≤ 400) ∧ RowsOK a.Rows ∧ RowsOK b.Rows) (fun (a : Tab) (b : Tab) => [⟨(.named 2), (unionAll a b)⟩])

theorem unionAll_ok : FnOK Try.prog 83 unionAll_sp := by
 have hC : CtxOK Try.prog (mkCtx tyL [(66, tableOf_sp)]) := CtxOK.cons tableOf_ok (CtxOK.nil tyOK)
 have hM : Try.prog.follows .mixedOrders = true := Try.checked.mixed
 refine FnOK.of_body Try.func83 (by kernel_rfl) rfl (C := (mkCtx tyL [(66, tableOf_sp)])) hC.ty (by kernel_rfl) ?_
 intro (a : Tab) (b : Tab) hwf hpre E
 have hpre : (List.length a.Rows ≤ 400 ∧ List.length b.Rows ≤ 400) ∧ RowsOK a.Rows ∧ RowsOK b.Rows := hpre
 have hw_a : Wf ⟨(.named 2), (a : Tab)⟩ := hwf _ (List.Mem.head _)
 have hr_a_Width : -9223372036854775808 ≤ Tab.Width a ∧ Tab.Width a ≤ 9223372036854775807 := (hw_a.field (tv := ⟨(.int .i64), Tab.Width a⟩) (List.Mem.head _)).int_inv
 have hl_a_Rows : ((List.length (Tab.Rows a) : Nat) : Int) ≤ 9223372036854775807 := (hw_a.field (tv := ⟨(.slice (.slice (.named 1))), Tab.Rows a⟩) (List.Mem.tail _ (List.Mem.head _))).len
 have hw_b : Wf ⟨(.named 2), (b : Tab)⟩ := hwf _ (List.Mem.tail _ (List.Mem.head _))
 have hr_b_Width : -9223372036854775808 ≤ Tab.Width b ∧ Tab.Width b ≤ 9223372036854775807 := (hw_b.field (tv := ⟨(.int .i64), Tab.Width b⟩) (List.Mem.head _)).int_inv
 have hl_b_Rows : ((List.length (Tab.Rows b) : Nat) : Int) ≤ 9223372036854775807 := (hw_b.field (tv := ⟨(.slice (.slice (.named 1))), Tab.Rows b⟩) (List.Mem.tail _ (List.Mem.head _))).len
 have e0 : unionAll a b = unionAll a b := rfl
 refine AW.seq (AW.r1 hC [2, 3, 4] [8, 12, 16] ⟨[(2, .ref 8 1 0), (3, .ref 12 1 0), (4, .ref 16 1 0)], [(8, .box 1 [.int .i64 (Tab.Width a), .data (.slice (.slice (.named 1))) ((Tab.Rows a) : List (List Val))]), (12, .box 1 [.int .i64 (Tab.Width b), .data (.slice (.slice (.named 1))) ((Tab.Rows b) : List (List Val))]), (16, .box 1 [.int .i64 0, .nilsl])]⟩ ?_)
 refine AW.seq (AW.d0 hC hM [4] [16] ⟨[(4, .ref 16 1 0)], [(16, .box 1 [.int .i64 (Tab.Width (tableOf (Tab.Width a) ((([] : List (List Val)) ++ (Tab.Rows a)) ++ (Tab.Rows b)))), .data (.slice (.slice (.named 1))) ((Tab.Rows (tableOf (Tab.Width a) ((([] : List (List Val)) ++ (Tab.Rows a)) ++ (Tab.Rows b)))) : List (List Val))])]⟩ [(0 + ((List.length (Tab.Rows a) : Nat) : Int) ≤ 4294967296), (((List.length (([] : List (List Val)) ++ (Tab.Rows a)) : Nat) : Int) + ((List.length (Tab.Rows b) : Nat) : Int) ≤ 4294967296), (∀ i : Nat, i < List.length ((([] : List (List Val)) ++ (Tab.Rows a)) ++ (Tab.Rows b)) → (List.length (List.getD ((([] : List (List Val)) ++ (Tab.Rows a)) ++ (Tab.Rows b)) i []) : Int) ≤ 1048576)] ?_ ?_)
 ·
  refine ⟨?_, ?_, ?_, trivial⟩
  ·
   omega
  ·
   simp only [List.length_append, List.length_nil]; omega
  ·
   intro i hi
   have hm := getD_mem _ i [] hi
   rcases List.mem_append.1 hm with hm | hm
   ·
    rcases List.mem_append.1 hm with hm | hm
    ·
     cases hm
    ·
     have := (hpre.2.1.len hm).2
     omega
   ·
    have := (hpre.2.2.len hm).2
    omega
 exact AW.ret (AW.retE (β := Tab) (fun v => [⟨(.named 2), v⟩]) (fun v => []) (v := (tableOf (Tab.Width a) ((([] : List (List Val)) ++ (Tab.Rows a)) ++ (Tab.Rows b)))) e0 (by kernel_rfl) rfl rfl)

def sUnionAll (a : Tab) (b : Tab) : Tab × Bool := (bif (bif (bif (!(validTable a)) then true else (!(validTable b))) then true else ((Tab.Width a) != (Tab.Width b))) then ((Tab.mk 0 ([] : List (List Val))), false) else ((unionAll a b), true))

def sUnionAll_sp : FnSpec := mkSpec [.val (.named 2), .val (.named 2)] [.val (.named 2), .val .bool] (fun (a : Tab) (b : Tab) => True) (fun (a : Tab) (b : Tab) => [⟨(.named 2), ((sUnionAll a b).1)⟩, ⟨.bool, ((sUnionAll a b).2)⟩])

theorem sUnionAll_ok : FnOK Try.prog 38 sUnionAll_sp := by
 have hC : CtxOK Try.prog (mkCtx tyL [(77, validTable_sp), (83, unionAll_sp)]) := CtxOK.cons validTable_ok (CtxOK.cons unionAll_ok (CtxOK.nil tyOK))
 refine FnOK.of_body Try.func38 (by kernel_rfl) rfl (C := (mkCtx tyL [(77, validTable_sp), (83, unionAll_sp)])) hC.ty (by kernel_rfl) ?_
 intro (a : Tab) (b : Tab) hwf hpre E
 have hpre : True := hpre
 have hw_a : Wf ⟨(.named 2), (a : Tab)⟩ := hwf _ (List.Mem.head _)
 have hr_a_Width : -9223372036854775808 ≤ Tab.Width a ∧ Tab.Width a ≤ 9223372036854775807 := (hw_a.field (tv := ⟨(.int .i64), Tab.Width a⟩) (List.Mem.head _)).int_inv
 have hl_a_Rows : ((List.length (Tab.Rows a) : Nat) : Int) ≤ 9223372036854775807 := (hw_a.field (tv := ⟨(.slice (.slice (.named 1))), Tab.Rows a⟩) (List.Mem.tail _ (List.Mem.head _))).len
 have hw_b : Wf ⟨(.named 2), (b : Tab)⟩ := hwf _ (List.Mem.tail _ (List.Mem.head _))
 have hr_b_Width : -9223372036854775808 ≤ Tab.Width b ∧ Tab.Width b ≤ 9223372036854775807 := (hw_b.field (tv := ⟨(.int .i64), Tab.Width b⟩) (List.Mem.head _)).int_inv
 have hl_b_Rows : ((List.length (Tab.Rows b) : Nat) : Int) ≤ 9223372036854775807 := (hw_b.field (tv := ⟨(.slice (.slice (.named 1))), Tab.Rows b⟩) (List.Mem.tail _ (List.Mem.head _))).len
 have e0 : sUnionAll a b = sUnionAll a b := rfl
 refine AW.seq (AW.r1 hC [2, 3, 4] [8, 12, 16] ⟨[(2, .ref 8 1 0), (3, .ref 12 1 0), (4, .ref 16 1 0)], [(8, .box 1 [.int .i64 (Tab.Width a), .data (.slice (.slice (.named 1))) ((Tab.Rows a) : List (List Val))]), (12, .box 1 [.int .i64 (Tab.Width b), .data (.slice (.slice (.named 1))) ((Tab.Rows b) : List (List Val))]), (16, .box 1 [.int .i64 0, .nilsl])]⟩ ?_)
 refine AW.seq (AW.seq (AW.r0 hC [2, 3, 4, 20] [8, 12, 16] ⟨[(2, .ref 8 1 0), (3, .ref 12 1 0), (4, .ref 16 1 0), (20, .bool (bif (bif (!(validTable a)) then true else (!(validTable b))) then true else ((Tab.Width a) != (Tab.Width b))))], [(8, .box 1 [.int .i64 (Tab.Width a), .data (.slice (.slice (.named 1))) ((Tab.Rows a) : List (List Val))]), (12, .box 1 [.int .i64 (Tab.Width b), .data (.slice (.slice (.named 1))) ((Tab.Rows b) : List (List Val))]), (16, .box 1 [.int .i64 0, .nilsl])]⟩ [(True), (((!(validTable a)) = false) → (((!(validTable a)) = false))), (((!(validTable a)) = false) → (True)), (((!(validTable a)) = false) → (((!(validTable a)) = false))), (((!(validTable a)) = false) → (((!(validTable a)) = false))), (((bif (!(validTable a)) then true else (!(validTable b))) = false) → (((bif (!(validTable a)) then true else (!(validTable b))) = false))), (((bif (!(validTable a)) then true else (!(validTable b))) = false) → (((bif (!(validTable a)) then true else (!(validTable b))) = false))), (((bif (!(validTable a)) then true else (!(validTable b))) = false) → (((bif (!(validTable a)) then true else (!(validTable b))) = false))), (((bif (!(validTable a)) then true else (!(validTable b))) = false) → (((bif (!(validTable a)) then true else (!(validTable b))) = false))), (((bif (!(validTable a)) then true else (!(validTable b))) = false) → (((bif (!(validTable a)) then true else (!(validTable b))) = false)))] ?_ ?_))
 ·
  refine ⟨?_, ?_, ?_, ?_, ?_, ?_, ?_, ?_, ?_, ?_, trivial⟩
  ·
   trivial
  ·
   intro g1
   have g1p0 : (validTable a) = true := (Go.Am.not_neg g1)
   assumption
  ·
   intro g2
   have g2p0 : (validTable a) = true := (Go.Am.not_neg g2)
   trivial
  ·
   intro g3
   have g3p0 : (validTable a) = true := (Go.Am.not_neg g3)
   assumption
  ·
   intro g4
   have g4p0 : (validTable a) = true := (Go.Am.not_neg g4)
   assumption
  ·
   intro g5
   have g5p0 : ((validTable a) = true) ∧ ((validTable b) = true) := (And.imp (fun h => (Go.Am.not_neg h)) (fun h => (Go.Am.not_neg h)) (Go.Am.or_neg g5))
   assumption
  ·
   intro g6
   have g6p0 : ((validTable a) = true) ∧ ((validTable b) = true) := (And.imp (fun h => (Go.Am.not_neg h)) (fun h => (Go.Am.not_neg h)) (Go.Am.or_neg g6))
   assumption
  ·
   intro g7
   have g7p0 : ((validTable a) = true) ∧ ((validTable b) = true) := (And.imp (fun h => (Go.Am.not_neg h)) (fun h => (Go.Am.not_neg h)) (Go.Am.or_neg g7))
   assumption
  ·
   intro g8
   have g8p0 : ((validTable a) = true) ∧ ((validTable b) = true) := (And.imp (fun h => (Go.Am.not_neg h)) (fun h => (Go.Am.not_neg h)) (Go.Am.or_neg g8))
   assumption
  ·
   intro g9
   have g9p0 : ((validTable a) = true) ∧ ((validTable b) = true) := (And.imp (fun h => (Go.Am.not_neg h)) (fun h => (Go.Am.not_neg h)) (Go.Am.or_neg g9))
   assumption
 refine AW.cd (bif (bif (!(validTable a)) then true else (!(validTable b))) then true else ((Tab.Width a) != (Tab.Width b))) ?_ ?_
 ·
  intro h10
  have h10q : (((validTable a) = false) ∨ ((validTable b) = false)) ∨ ((Tab.Width a) ≠ (Tab.Width b)) := (Or.imp (fun h => (Or.imp (fun h => (Go.Am.not_pos h)) (fun h => (Go.Am.not_pos h)) (Go.Am.or_pos h))) (fun h => (Go.Am.bne_pos h)) (Go.Am.or_pos h10))
  have e11 := e0.trans (Go.Am.bif_t h10)
  refine AW.seq (AW.r1 hC [4, 5] [16] ⟨[(4, .ref 16 1 0), (5, .bool false)], [(16, .box 1 [.int .i64 0, .nilsl])]⟩ ?_)
  exact AW.ret (AW.retE (β := Tab × Bool) (fun v => [⟨(.named 2), v.1⟩, ⟨.bool, v.2⟩]) (fun v => []) (v := ((Tab.mk 0 ([] : List (List Val))), false)) e11 (by kernel_rfl) rfl rfl)
 ·
  intro h12
  have h12q : (((validTable a) = true) ∧ ((validTable b) = true)) ∧ ((Tab.Width a) = (Tab.Width b)) := (And.imp (fun h => (And.imp (fun h => (Go.Am.not_neg h)) (fun h => (Go.Am.not_neg h)) (Go.Am.or_neg h))) (fun h => (Go.Am.bne_neg h)) (Go.Am.or_neg h12))
  have e13 := e0.trans (Go.Am.bif_f h12)
  refine AW.kp [2, 3, 4] [8, 12, 16] ⟨[(2, .ref 8 1 0), (3, .ref 12 1 0), (4, .ref 16 1 0)], [(8, .box 1 [.int .i64 (Tab.Width a), .data (.slice (.slice (.named 1))) ((Tab.Rows a) : List (List Val))]), (12, .box 1 [.int .i64 (Tab.Width b), .data (.slice (.slice (.named 1))) ((Tab.Rows b) : List (List Val))]), (16, .box 1 [.int .i64 0, .nilsl])]⟩ ?_
  refine AW.skip (AW.seq (AW.r0 hC [4, 5] [16] ⟨[(4, .ref 16 1 0), (5, .bool true)], [(16, .box 1 [.int .i64 (Tab.Width (unionAll a b)), .data (.slice (.slice (.named 1))) ((Tab.Rows (unionAll a b)) : List (List Val))])]⟩ [((List.length a.Rows ≤ 400 ∧ List.length b.Rows ≤ 400) ∧ RowsOK a.Rows ∧ RowsOK b.Rows)] ?_ ?_))
  ·
   refine ⟨?_, trivial⟩
   ·
    exact ⟨⟨(validTable_iff.1 h12q.1.1).n4, (validTable_iff.1 h12q.1.2).n4⟩, (validTable_iff.1 h12q.1.1).rowsOK, (validTable_iff.1 h12q.1.2).rowsOK⟩
  exact AW.ret (AW.retE (β := Tab × Bool) (fun v => [⟨(.named 2), v.1⟩, ⟨.bool, v.2⟩]) (fun v => []) (v := ((unionAll a b), true)) e13 (by kernel_rfl) rfl rfl)

end
end Go.Proofs.Ytjcjpeckfikfkaa
