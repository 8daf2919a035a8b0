/-
  A part of the proof of this claim (AwO): what functions of the program compute, and plain facts of that. No conditions.
-/
import Derived.Test.YtjcjpeckfikfkaaAwL
import Derived.Test.YtjcjpeckfikfkaaAwE
set_option linter.all false
namespace Go.Proofs.Ytjcjpeckfikfkaa
open Go Go.Am
noncomputable section

def distinctRows_l0 (t : Tab) : Nat → Nat → (List (List Val)) → (List (List Val))
 | 0, i, ar167 => ar167
 | k + 1, i, ar167 => (bif (decide (((i : Nat) : Int) < ((List.length (Tab.Rows t) : Nat) : Int))) then (bif (bif (((i : Nat) : Int) == 0) then true else ((compareRows (List.getD (Tab.Rows t) (Int.toNat (((i : Nat) : Int) - 1)) []) (List.getD (Tab.Rows t) i [])) != 0)) then (distinctRows_l0 t k (i + 1) (ar167 ++ ([(copyRow (List.getD (Tab.Rows t) i []))] : List (List Val)))) else (distinctRows_l0 t k (i + 1) ar167)) else ar167)

def distinctRows (t : Tab) : Tab := (Go.Am.andThen (distinctRows_l0 t ((List.length (Tab.Rows t)) - 0 + 1) 0 ([] : List (List Val))) (fun z => (fun (ar167 : List (List Val)) => (Tab.mk (Tab.Width t) ar167)) z))

def distinctRows_sp : FnSpec := mkSpec [.val (.named 2)] [.val (.named 2)] (fun (t : Tab) => List.length t.Rows ≤ 400 ∧ RowsOK t.Rows) (fun (t : Tab) => [⟨(.named 2), (distinctRows t)⟩])

theorem distinctRows_ok : FnOK Try.prog 80 distinctRows_sp := by
 have hC : CtxOK Try.prog (mkCtx tyL [(75, copyRow_sp), (106, compareRows_sp)]) := CtxOK.cons copyRow_ok (CtxOK.cons compareRows_ok (CtxOK.nil tyOK))
 have hM : Try.prog.follows .mixedOrders = true := Try.checked.mixed
 refine FnOK.of_body Try.func80 (by kernel_rfl) rfl (C := (mkCtx tyL [(75, copyRow_sp), (106, compareRows_sp)])) hC.ty (by kernel_rfl) ?_
 intro (t : Tab) hwf hpre E
 have hpre : List.length t.Rows ≤ 400 ∧ RowsOK t.Rows := hpre
 have hw_t : Wf ⟨(.named 2), (t : Tab)⟩ := hwf _ (List.Mem.head _)
 have hr_t_Width : -9223372036854775808 ≤ Tab.Width t ∧ Tab.Width t ≤ 9223372036854775807 := (hw_t.field (tv := ⟨(.int .i64), Tab.Width t⟩) (List.Mem.head _)).int_inv
 have hl_t_Rows : ((List.length (Tab.Rows t) : Nat) : Int) ≤ 9223372036854775807 := (hw_t.field (tv := ⟨(.slice (.slice (.named 1))), Tab.Rows t⟩) (List.Mem.tail _ (List.Mem.head _))).len
 have e0 : distinctRows t = distinctRows t := rfl
 refine AW.seq (AW.r1 hC [1, 2] [4, 8] ⟨[(1, .ref 4 1 0), (2, .ref 8 1 0)], [(4, .box 1 [.int .i64 (Tab.Width t), .data (.slice (.slice (.named 1))) ((Tab.Rows t) : List (List Val))]), (8, .box 1 [.int .i64 0, .nilsl])]⟩ ?_)
 refine AW.seq (AW.r1 hC [1, 2, 3] [4, 8, 12] ⟨[(1, .ref 4 1 0), (2, .ref 8 1 0), (3, .ref 12 1 0)], [(4, .box 1 [.int .i64 (Tab.Width t), .data (.slice (.slice (.named 1))) ((Tab.Rows t) : List (List Val))]), (8, .box 1 [.int .i64 0, .nilsl]), (12, .box 1 [.int .i64 (Tab.Width t), .nilsl])]⟩ ?_)
 refine AW.seq (AW.seq (AW.r1 hC [1, 2, 3, 4] [4, 8, 12] ⟨[(1, .ref 4 1 0), (2, .ref 8 1 0), (3, .ref 12 1 0), (4, .int .i64 0)], [(4, .box 1 [.int .i64 (Tab.Width t), .data (.slice (.slice (.named 1))) ((Tab.Rows t) : List (List Val))]), (8, .box 1 [.int .i64 0, .nilsl]), (12, .box 1 [.int .i64 (Tab.Width t), .nilsl])]⟩ ?_))
 refine AW.adoptB 12 1 1 167 [.int .i64 (Tab.Width t), .nilsl] (.slice (.named 1)) (by kernel_rfl) (by kernel_rfl) (by kernel_rfl) ?_
 refine AW.kp [1, 2, 3, 4] [4, 8, 12, 167] ⟨[(1, .ref 4 1 0), (2, .ref 8 1 0), (3, .ref 12 1 0), (4, .int .i64 0)], [(4, .box 1 [.int .i64 (Tab.Width t), .data (.slice (.slice (.named 1))) ((Tab.Rows t) : List (List Val))]), (8, .box 1 [.int .i64 0, .nilsl]), (12, .box 1 [.int .i64 (Tab.Width t), .arr 167 1]), (167, .arr 1 (.slice (.named 1)) (([] : List (List Val)) : List (List Val)))]⟩ ?_
 refine AW.cutQ (α := (List (List Val))) (fun x => ⟨[(2, .ref 8 1 0), (3, .ref 12 1 0)], [(8, .box 1 [.int .i64 0, .nilsl]), (12, .box 1 [.int .i64 (Tab.Width t), .arr 167 1]), (167, .arr 1 (.slice (.named 1)) (x : List (List Val)))]⟩) (fun x => (True) ∧ (distinctRows_l0 t ((List.length (Tab.Rows t)) - 0 + 1) 0 ([] : List (List Val))) = x) ?_ ?_
 ·
  skip
  refine AW.block (AW.loop (α := Nat × (List (List Val))) (fun x => ⟨[(1, .ref 4 1 0), (2, .ref 8 1 0), (3, .ref 12 1 0), (4, .int .i64 ((x.1 : Nat) : Int))], [(4, .box 1 [.int .i64 (Tab.Width t), .data (.slice (.slice (.named 1))) ((Tab.Rows t) : List (List Val))]), (8, .box 1 [.int .i64 0, .nilsl]), (12, .box 1 [.int .i64 (Tab.Width t), .arr 167 1]), (167, .arr 1 (.slice (.named 1)) (x.2 : List (List Val)))]⟩) (fun x => (List.length x.2 ≤ x.1) ∧ ∃ k, (List.length (Tab.Rows t)) - x.1 < k ∧ (distinctRows_l0 t ((List.length (Tab.Rows t)) - 0 + 1) 0 ([] : List (List Val))) = distinctRows_l0 t k x.1 x.2) (fun x => (List.length (Tab.Rows t)) - x.1) (0, ([] : List (List Val))) (by kernel_rfl) ⟨?_, _, Nat.lt_succ_self _, rfl⟩ ?_)
  ·
   show List.length ([] : List (List Val)) ≤ 0
   exact Nat.le_refl _
  ·
   intro x hR
   obtain ⟨i, ar167⟩ := x
   obtain ⟨hI0, k51, hk49, e50⟩ := hR
   replace hI0 : List.length ar167 ≤ i := hI0
   replace hk49 : (List.length (Tab.Rows t)) - i < k51 := hk49
   obtain ⟨k51q, rfl⟩ : ∃ k, k51 = k + 1 := ⟨k51 - 1, by omega⟩
   refine AW.seq (AW.seq (AW.wf_arr (id := 167) (ep := 1) (t := (.slice (.named 1))) (xs := (ar167 : List (List Val))) (by kernel_rfl) fun ha52 _ => ?_))
   replace ha52 : ((List.length ar167 : Nat) : Int) ≤ 4294967296 := ha52
   refine AW.r1 hC [1, 2, 3, 4, 12] [4, 8, 12, 167] ⟨[(1, .ref 4 1 0), (2, .ref 8 1 0), (3, .ref 12 1 0), (4, .int .i64 ((i : Nat) : Int)), (12, .bool (decide (((i : Nat) : Int) < ((List.length (Tab.Rows t) : Nat) : Int))))], [(4, .box 1 [.int .i64 (Tab.Width t), .data (.slice (.slice (.named 1))) ((Tab.Rows t) : List (List Val))]), (8, .box 1 [.int .i64 0, .nilsl]), (12, .box 1 [.int .i64 (Tab.Width t), .arr 167 1]), (167, .arr 1 (.slice (.named 1)) (ar167 : List (List Val)))]⟩ ?_
   refine AW.cd (decide (((i : Nat) : Int) < ((List.length (Tab.Rows t) : Nat) : Int))) ?_ ?_
   ·
    intro h53
    have h53q : ((i : Nat) : Int) < ((List.length (Tab.Rows t) : Nat) : Int) := (of_decide_eq_true h53)
    have e54 := e50.trans (Go.Am.bif_t h53)
    refine AW.kp [1, 2, 3, 4] [4, 8, 12, 167] ⟨[(1, .ref 4 1 0), (2, .ref 8 1 0), (3, .ref 12 1 0), (4, .int .i64 ((i : Nat) : Int))], [(4, .box 1 [.int .i64 (Tab.Width t), .data (.slice (.slice (.named 1))) ((Tab.Rows t) : List (List Val))]), (8, .box 1 [.int .i64 0, .nilsl]), (12, .box 1 [.int .i64 (Tab.Width t), .arr 167 1]), (167, .arr 1 (.slice (.named 1)) (ar167 : List (List Val)))]⟩ ?_
    refine AW.skip (AW.seq (AW.block (AW.seq (AW.wf_arr (id := 167) (ep := 1) (t := (.slice (.named 1))) (xs := (ar167 : List (List Val))) (by kernel_rfl) fun ha55 _ => ?_))))
    replace ha55 : ((List.length ar167 : Nat) : Int) ≤ 4294967296 := ha55
    refine AW.d0 hC hM [1, 2, 3, 4, 31] [4, 8, 12, 167] ⟨[(1, .ref 4 1 0), (2, .ref 8 1 0), (3, .ref 12 1 0), (4, .int .i64 ((i : Nat) : Int)), (31, .bool (bif (((i : Nat) : Int) == 0) then true else ((compareRows (List.getD (Tab.Rows t) (Int.toNat (((i : Nat) : Int) - 1)) []) (List.getD (Tab.Rows t) i [])) != 0)))], [(4, .box 1 [.int .i64 (Tab.Width t), .data (.slice (.slice (.named 1))) ((Tab.Rows t) : List (List Val))]), (8, .box 1 [.int .i64 0, .nilsl]), (12, .box 1 [.int .i64 (Tab.Width t), .arr 167 1]), (167, .arr 1 (.slice (.named 1)) (ar167 : List (List Val)))]⟩ [(((((i : Nat) : Int) == 0) = false) → (((((i : Nat) : Int) == 0) = false))), (((((i : Nat) : Int) == 0) = false) → (((((i : Nat) : Int) == 0) = false))), (((((i : Nat) : Int) == 0) = false) → (-9223372036854775808 ≤ (((i : Nat) : Int) - 1) ∧ (((i : Nat) : Int) - 1) ≤ 9223372036854775807)), (((((i : Nat) : Int) == 0) = false) → (((((i : Nat) : Int) == 0) = false))), (((((i : Nat) : Int) == 0) = false) → (((((i : Nat) : Int) == 0) = false))), (((((i : Nat) : Int) == 0) = false) → (0 ≤ (((i : Nat) : Int) - 1) ∧ (((i : Nat) : Int) - 1) < ((List.length (Tab.Rows t) : Nat) : Int))), (((((i : Nat) : Int) == 0) = false) → (((((i : Nat) : Int) == 0) = false))), (((((i : Nat) : Int) == 0) = false) → (((((i : Nat) : Int) == 0) = false))), (((((i : Nat) : Int) == 0) = false) → (((((i : Nat) : Int) == 0) = false))), (((((i : Nat) : Int) == 0) = false) → (((((i : Nat) : Int) == 0) = false))), (((((i : Nat) : Int) == 0) = false) → (0 ≤ ((i : Nat) : Int) ∧ ((i : Nat) : Int) < ((List.length (Tab.Rows t) : Nat) : Int))), (((((i : Nat) : Int) == 0) = false) → (((((i : Nat) : Int) == 0) = false))), (((((i : Nat) : Int) == 0) = false) → (((((i : Nat) : Int) == 0) = false))), (((((i : Nat) : Int) == 0) = false) → (((((i : Nat) : Int) == 0) = false))), (((((i : Nat) : Int) == 0) = false) → (True)), (((((i : Nat) : Int) == 0) = false) → (((((i : Nat) : Int) == 0) = false))), (((((i : Nat) : Int) == 0) = false) → (((((i : Nat) : Int) == 0) = false)))] ?_ ?_
    ·
     refine ⟨?_, ?_, ?_, ?_, ?_, ?_, ?_, ?_, ?_, ?_, ?_, ?_, ?_, ?_, ?_, ?_, ?_, trivial⟩
     ·
      intro g56
      have g56p0 : ((i : Nat) : Int) ≠ 0 := (Go.Am.beq_neg g56)
      assumption
     ·
      intro g57
      have g57p0 : ((i : Nat) : Int) ≠ 0 := (Go.Am.beq_neg g57)
      assumption
     ·
      intro g58
      have g58p0 : ((i : Nat) : Int) ≠ 0 := (Go.Am.beq_neg g58)
      omega
     ·
      intro g59
      have g59p0 : ((i : Nat) : Int) ≠ 0 := (Go.Am.beq_neg g59)
      assumption
     ·
      intro g60
      have g60p0 : ((i : Nat) : Int) ≠ 0 := (Go.Am.beq_neg g60)
      assumption
     ·
      intro g61
      have g61p0 : ((i : Nat) : Int) ≠ 0 := (Go.Am.beq_neg g61)
      omega
     ·
      intro g62
      have g62p0 : ((i : Nat) : Int) ≠ 0 := (Go.Am.beq_neg g62)
      assumption
     ·
      intro g63
      have g63p0 : ((i : Nat) : Int) ≠ 0 := (Go.Am.beq_neg g63)
      assumption
     ·
      intro g64
      have g64p0 : ((i : Nat) : Int) ≠ 0 := (Go.Am.beq_neg g64)
      assumption
     ·
      intro g65
      have g65p0 : ((i : Nat) : Int) ≠ 0 := (Go.Am.beq_neg g65)
      assumption
     ·
      intro g66
      have g66p0 : ((i : Nat) : Int) ≠ 0 := (Go.Am.beq_neg g66)
      omega
     ·
      intro g67
      have g67p0 : ((i : Nat) : Int) ≠ 0 := (Go.Am.beq_neg g67)
      assumption
     ·
      intro g68
      have g68p0 : ((i : Nat) : Int) ≠ 0 := (Go.Am.beq_neg g68)
      assumption
     ·
      intro g69
      have g69p0 : ((i : Nat) : Int) ≠ 0 := (Go.Am.beq_neg g69)
      assumption
     ·
      intro g70
      have g70p0 : ((i : Nat) : Int) ≠ 0 := (Go.Am.beq_neg g70)
      trivial
     ·
      intro g71
      have g71p0 : ((i : Nat) : Int) ≠ 0 := (Go.Am.beq_neg g71)
      assumption
     ·
      intro g72
      have g72p0 : ((i : Nat) : Int) ≠ 0 := (Go.Am.beq_neg g72)
      assumption
    refine AW.cd (bif (((i : Nat) : Int) == 0) then true else ((compareRows (List.getD (Tab.Rows t) (Int.toNat (((i : Nat) : Int) - 1)) []) (List.getD (Tab.Rows t) i [])) != 0)) ?_ ?_
    ·
     intro h73
     have h73q : (((i : Nat) : Int) = 0) ∨ ((compareRows (List.getD (Tab.Rows t) (Int.toNat (((i : Nat) : Int) - 1)) []) (List.getD (Tab.Rows t) i [])) ≠ 0) := (Or.imp (fun h => (Go.Am.beq_pos h)) (fun h => (Go.Am.bne_pos h)) (Go.Am.or_pos h73))
     have e74 := e54.trans (Go.Am.bif_t h73)
     refine AW.wf_arr (id := 167) (ep := 1) (t := (.slice (.named 1))) (xs := (ar167 : List (List Val))) (by kernel_rfl) fun ha75 _ => ?_
     replace ha75 : ((List.length ar167 : Nat) : Int) ≤ 4294967296 := ha75
     refine AW.d0 hC hM [1, 2, 3, 4] [4, 8, 12, 167] ⟨[(1, .ref 4 1 0), (2, .ref 8 1 0), (3, .ref 12 1 0), (4, .int .i64 ((i : Nat) : Int))], [(4, .box 1 [.int .i64 (Tab.Width t), .data (.slice (.slice (.named 1))) ((Tab.Rows t) : List (List Val))]), (8, .box 1 [.int .i64 0, .nilsl]), (12, .box 1 [.int .i64 (Tab.Width t), .arr 167 1]), (167, .arr 1 (.slice (.named 1)) ((ar167 ++ ([(copyRow (List.getD (Tab.Rows t) i []))] : List (List Val))) : List (List Val)))]⟩ [(0 ≤ ((i : Nat) : Int) ∧ ((i : Nat) : Int) < ((List.length (Tab.Rows t) : Nat) : Int)), ((List.length (List.getD (Tab.Rows t) i []) : Int) ≤ 1048576), (((List.length ar167 : Nat) : Int) + ((List.length ([(copyRow (List.getD (Tab.Rows t) i []))] : List (List Val)) : Nat) : Int) ≤ 4294967296)] ?_ ?_
     ·
      refine ⟨?_, ?_, ?_, trivial⟩
      ·
       omega
      ·
       have := (hpre.2.len (getD_mem t.Rows i [] (by omega))).2
       omega
      ·
       simp only [lens] at *; omega
     refine AW.wf_arr (id := 167) (ep := 1) (t := (.slice (.named 1))) (xs := ((ar167 ++ ([(copyRow (List.getD (Tab.Rows t) i []))] : List (List Val))) : List (List Val))) (by kernel_rfl) fun ha76 _ => ?_
     replace ha76 : ((List.length (ar167 ++ ([(copyRow (List.getD (Tab.Rows t) i []))] : List (List Val))) : Nat) : Int) ≤ 4294967296 := ha76
     refine AW.r0 hC [1, 2, 3, 4] [4, 8, 12, 167] ⟨[(1, .ref 4 1 0), (2, .ref 8 1 0), (3, .ref 12 1 0), (4, .int .i64 ((i + 1 : Nat) : Int))], [(4, .box 1 [.int .i64 (Tab.Width t), .data (.slice (.slice (.named 1))) ((Tab.Rows t) : List (List Val))]), (8, .box 1 [.int .i64 0, .nilsl]), (12, .box 1 [.int .i64 (Tab.Width t), .arr 167 1]), (167, .arr 1 (.slice (.named 1)) ((ar167 ++ ([(copyRow (List.getD (Tab.Rows t) i []))] : List (List Val))) : List (List Val)))]⟩ [(-9223372036854775808 ≤ ((i + 1 : Nat) : Int) ∧ ((i + 1 : Nat) : Int) ≤ 9223372036854775807)] ?_ ?_
     ·
      refine ⟨?_, trivial⟩
      ·
       omega
     refine AW.back (x := (i, ar167)) (i + 1, (ar167 ++ ([(copyRow (List.getD (Tab.Rows t) i []))] : List (List Val)))) (by kernel_rfl) ⟨?_, k51q, ?_, e74⟩ ?_
     ·
      show List.length (ar167 ++ ([(copyRow (List.getD (Tab.Rows t) i []))] : List (List Val))) ≤ (i + 1)
      simp only [List.length_append, List.length_cons, List.length_nil]; omega
     ·
      show (List.length (Tab.Rows t)) - (i + 1) < k51q
      omega
     ·
      show (List.length (Tab.Rows t)) - (i + 1) < (List.length (Tab.Rows t)) - i
      omega
    ·
     intro h77
     have h77q : (((i : Nat) : Int) ≠ 0) ∧ ((compareRows (List.getD (Tab.Rows t) (Int.toNat (((i : Nat) : Int) - 1)) []) (List.getD (Tab.Rows t) i [])) = 0) := (And.imp (fun h => (Go.Am.beq_neg h)) (fun h => (Go.Am.bne_neg h)) (Go.Am.or_neg h77))
     have e78 := e54.trans (Go.Am.bif_f h77)
     refine AW.kp [1, 2, 3, 4] [4, 8, 12, 167] ⟨[(1, .ref 4 1 0), (2, .ref 8 1 0), (3, .ref 12 1 0), (4, .int .i64 ((i : Nat) : Int))], [(4, .box 1 [.int .i64 (Tab.Width t), .data (.slice (.slice (.named 1))) ((Tab.Rows t) : List (List Val))]), (8, .box 1 [.int .i64 0, .nilsl]), (12, .box 1 [.int .i64 (Tab.Width t), .arr 167 1]), (167, .arr 1 (.slice (.named 1)) (ar167 : List (List Val)))]⟩ ?_
     refine AW.skip (AW.wf_arr (id := 167) (ep := 1) (t := (.slice (.named 1))) (xs := (ar167 : List (List Val))) (by kernel_rfl) fun ha79 _ => ?_)
     replace ha79 : ((List.length ar167 : Nat) : Int) ≤ 4294967296 := ha79
     refine AW.r0 hC [1, 2, 3, 4] [4, 8, 12, 167] ⟨[(1, .ref 4 1 0), (2, .ref 8 1 0), (3, .ref 12 1 0), (4, .int .i64 ((i + 1 : Nat) : Int))], [(4, .box 1 [.int .i64 (Tab.Width t), .data (.slice (.slice (.named 1))) ((Tab.Rows t) : List (List Val))]), (8, .box 1 [.int .i64 0, .nilsl]), (12, .box 1 [.int .i64 (Tab.Width t), .arr 167 1]), (167, .arr 1 (.slice (.named 1)) (ar167 : List (List Val)))]⟩ [(-9223372036854775808 ≤ ((i + 1 : Nat) : Int) ∧ ((i + 1 : Nat) : Int) ≤ 9223372036854775807)] ?_ ?_
     ·
      refine ⟨?_, trivial⟩
      ·
       omega
     refine AW.back (x := (i, ar167)) (i + 1, ar167) (by kernel_rfl) ⟨?_, k51q, ?_, e78⟩ ?_
     ·
      show List.length ar167 ≤ (i + 1)
      omega
     ·
      show (List.length (Tab.Rows t)) - (i + 1) < k51q
      omega
     ·
      show (List.length (Tab.Rows t)) - (i + 1) < (List.length (Tab.Rows t)) - i
      omega
   ·
    intro h80
    have h80q : ¬ (((i : Nat) : Int) < ((List.length (Tab.Rows t) : Nat) : Int)) := (of_decide_eq_false h80)
    have e81 := e50.trans (Go.Am.bif_f h80)
    refine AW.kp [2, 3] [8, 12, 167] ⟨[(2, .ref 8 1 0), (3, .ref 12 1 0)], [(8, .box 1 [.int .i64 0, .nilsl]), (12, .box 1 [.int .i64 (Tab.Width t), .arr 167 1]), (167, .arr 1 (.slice (.named 1)) (ar167 : List (List Val)))]⟩ ?_
    refine AW.exit ?_
    refine AW.meet ar167 (by kernel_rfl) ⟨?_, e81⟩
    show True
    trivial
 ·
  intro ar167 hR
  obtain ⟨hJ0, e82⟩ := hR
  replace hJ0 : True := hJ0
  have e83 := e0.trans (Go.Am.then_eq e82)
  refine AW.seq (AW.wf_arr (id := 167) (ep := 1) (t := (.slice (.named 1))) (xs := (ar167 : List (List Val))) (by kernel_rfl) fun ha84 _ => ?_)
  replace ha84 : ((List.length ar167 : Nat) : Int) ≤ 4294967296 := ha84
  refine AW.r1 hC [2] [8, 167] ⟨[(2, .ref 8 1 0)], [(8, .box 1 [.int .i64 (Tab.Width t), .arr 167 1]), (167, .arr 1 (.slice (.named 1)) (ar167 : List (List Val)))]⟩ ?_
  exact AW.ret (AW.retE (β := Tab) (fun v => [⟨(.named 2), v⟩]) (fun v => []) (v := (Tab.mk (Tab.Width t) ar167)) e83 (by kernel_rfl) rfl rfl)

def sDistinctRows (t : Tab) : Tab × Bool := (bif (!(validTable t)) then ((Tab.mk 0 ([] : List (List Val))), false) else ((distinctRows t), true))

def sDistinctRows_sp : FnSpec := mkSpec [.val (.named 2)] [.val (.named 2), .val .bool] (fun (t : Tab) => True) (fun (t : Tab) => [⟨(.named 2), ((sDistinctRows t).1)⟩, ⟨.bool, ((sDistinctRows t).2)⟩])

theorem sDistinctRows_ok : FnOK Try.prog 33 sDistinctRows_sp := by
 have hC : CtxOK Try.prog (mkCtx tyL [(77, validTable_sp), (80, distinctRows_sp)]) := CtxOK.cons validTable_ok (CtxOK.cons distinctRows_ok (CtxOK.nil tyOK))
 refine FnOK.of_body Try.func33 (by kernel_rfl) rfl (C := (mkCtx tyL [(77, validTable_sp), (80, distinctRows_sp)])) hC.ty (by kernel_rfl) ?_
 intro (t : Tab) hwf hpre E
 have hpre : True := hpre
 have hw_t : Wf ⟨(.named 2), (t : Tab)⟩ := hwf _ (List.Mem.head _)
 have hr_t_Width : -9223372036854775808 ≤ Tab.Width t ∧ Tab.Width t ≤ 9223372036854775807 := (hw_t.field (tv := ⟨(.int .i64), Tab.Width t⟩) (List.Mem.head _)).int_inv
 have hl_t_Rows : ((List.length (Tab.Rows t) : Nat) : Int) ≤ 9223372036854775807 := (hw_t.field (tv := ⟨(.slice (.slice (.named 1))), Tab.Rows t⟩) (List.Mem.tail _ (List.Mem.head _))).len
 have e0 : sDistinctRows t = sDistinctRows t := rfl
 refine AW.seq (AW.r1 hC [1, 2] [4, 8] ⟨[(1, .ref 4 1 0), (2, .ref 8 1 0)], [(4, .box 1 [.int .i64 (Tab.Width t), .data (.slice (.slice (.named 1))) ((Tab.Rows t) : List (List Val))]), (8, .box 1 [.int .i64 0, .nilsl])]⟩ ?_)
 refine AW.seq (AW.seq (AW.r0 hC [1, 2, 6] [4, 8] ⟨[(1, .ref 4 1 0), (2, .ref 8 1 0), (6, .bool (!(validTable t)))], [(4, .box 1 [.int .i64 (Tab.Width t), .data (.slice (.slice (.named 1))) ((Tab.Rows t) : List (List Val))]), (8, .box 1 [.int .i64 0, .nilsl])]⟩ [(True)] ?_ ?_))
 ·
  refine ⟨?_, trivial⟩
  ·
   trivial
 refine AW.cd (!(validTable t)) ?_ ?_
 ·
  intro h1
  have h1q : (validTable t) = false := (Go.Am.not_pos h1)
  have e2 := e0.trans (Go.Am.bif_t h1)
  refine AW.seq (AW.r1 hC [2, 3] [8] ⟨[(2, .ref 8 1 0), (3, .bool false)], [(8, .box 1 [.int .i64 0, .nilsl])]⟩ ?_)
  exact AW.ret (AW.retE (β := Tab × Bool) (fun v => [⟨(.named 2), v.1⟩, ⟨.bool, v.2⟩]) (fun v => []) (v := ((Tab.mk 0 ([] : List (List Val))), false)) e2 (by kernel_rfl) rfl rfl)
 ·
  intro h3
  have h3q : (validTable t) = true := (Go.Am.not_neg h3)
  have e4 := e0.trans (Go.Am.bif_f h3)
  refine AW.kp [1, 2] [4, 8] ⟨[(1, .ref 4 1 0), (2, .ref 8 1 0)], [(4, .box 1 [.int .i64 (Tab.Width t), .data (.slice (.slice (.named 1))) ((Tab.Rows t) : List (List Val))]), (8, .box 1 [.int .i64 0, .nilsl])]⟩ ?_
  refine AW.skip (AW.seq (AW.r0 hC [2, 3] [8] ⟨[(2, .ref 8 1 0), (3, .bool true)], [(8, .box 1 [.int .i64 (Tab.Width (distinctRows t)), .data (.slice (.slice (.named 1))) ((Tab.Rows (distinctRows t)) : List (List Val))])]⟩ [(List.length t.Rows ≤ 400 ∧ RowsOK t.Rows)] ?_ ?_))
  ·
   refine ⟨?_, trivial⟩
   ·
    exact ⟨(validTable_iff.1 h3q).n4, (validTable_iff.1 h3q).rowsOK⟩
  exact AW.ret (AW.retE (β := Tab × Bool) (fun v => [⟨(.named 2), v.1⟩, ⟨.bool, v.2⟩]) (fun v => []) (v := ((distinctRows t), true)) e4 (by kernel_rfl) rfl rfl)

end
end Go.Proofs.Ytjcjpeckfikfkaa
