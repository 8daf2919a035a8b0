/-
  A part of the proof of this claim (AwE): what functions of the program compute, and plain facts of that. No conditions.
-/
import Derived.Test.YtjcjpeckfikfkaaAwB
set_option linter.all false
namespace Go.Proofs.Ytjcjpeckfikfkaa
open Go Go.Am
noncomputable section

def tableOf_l0 (rows : List (List Val)) : Nat → Nat → (List (List Val)) → (List (List Val))
 | 0, i, ar103 => ar103
 | k + 1, i, ar103 => (bif (decide (((i : Nat) : Int) < ((List.length rows : Nat) : Int))) then (tableOf_l0 rows k (i + 1) (insertRow ar103 (List.getD rows i []))) else ar103)

def tableOf (width : Int) (rows : List (List Val)) : Tab := (bif (decide (400 < ((List.length rows : Nat) : Int))) then (Tab.mk width ([] : List (List Val))) else (Go.Am.andThen (tableOf_l0 rows ((List.length rows) - 0 + 1) 0 ([] : List (List Val))) (fun z => (fun (ar103 : List (List Val)) => (Tab.mk width ar103)) z)))

def tableOf_sp : FnSpec := mkSpec [.val (.int .i64), .val (.slice (.slice (.named 1)))] [.val (.named 2)] (fun (width : Int) (rows : List (List Val)) => ∀ i : Nat, i < List.length rows → (List.length (List.getD rows i []) : Int) ≤ 1048576) (fun (width : Int) (rows : List (List Val)) => [⟨(.named 2), (tableOf width rows)⟩])

theorem tableOf_ok : FnOK Try.prog 66 tableOf_sp := by
 have hC : CtxOK Try.prog (mkCtx tyL [(99, insertRow_sp)]) := CtxOK.cons insertRow_ok (CtxOK.nil tyOK)
 have hM : Try.prog.follows .mixedOrders = true := Try.checked.mixed
 refine FnOK.of_body Try.func66 (by kernel_rfl) rfl (C := (mkCtx tyL [(99, insertRow_sp)])) hC.ty (by kernel_rfl) ?_
 intro (width : Int) (rows : List (List Val)) hwf hpre E
 have hpre : ∀ i : Nat, i < List.length rows → (List.length (List.getD rows i []) : Int) ≤ 1048576 := hpre
 have hw_width : Wf ⟨(.int .i64), (width : Int)⟩ := hwf _ (List.Mem.head _)
 have hr_width : -9223372036854775808 ≤ width ∧ width ≤ 9223372036854775807 := hw_width.int_inv
 have hw_rows : Wf ⟨(.slice (.slice (.named 1))), (rows : List (List Val))⟩ := hwf _ (List.Mem.tail _ (List.Mem.head _))
 have hl_rows : ((List.length rows : Nat) : Int) ≤ 9223372036854775807 := hw_rows.len
 have e0 : tableOf width rows = tableOf width rows := rfl
 refine AW.seq (AW.r1 hC [0, 1, 4] [16] ⟨[(0, .int .i64 width), (1, .data (.slice (.slice (.named 1))) (rows : List (List Val))), (4, .ref 16 1 0)], [(16, .box 1 [.int .i64 0, .nilsl])]⟩ ?_)
 refine AW.seq (AW.r1 hC [1, 4, 5] [16, 20] ⟨[(1, .data (.slice (.slice (.named 1))) (rows : List (List Val))), (4, .ref 16 1 0), (5, .ref 20 1 0)], [(16, .box 1 [.int .i64 0, .nilsl]), (20, .box 1 [.int .i64 width, .nilsl])]⟩ ?_)
 refine AW.seq (AW.seq (AW.r1 hC [1, 4, 5, 11] [16, 20] ⟨[(1, .data (.slice (.slice (.named 1))) (rows : List (List Val))), (4, .ref 16 1 0), (5, .ref 20 1 0), (11, .bool (decide (400 < ((List.length rows : Nat) : Int))))], [(16, .box 1 [.int .i64 0, .nilsl]), (20, .box 1 [.int .i64 width, .nilsl])]⟩ ?_))
 refine AW.cd (decide (400 < ((List.length rows : Nat) : Int))) ?_ ?_
 ·
  intro h1
  have h1q : 400 < ((List.length rows : Nat) : Int) := (of_decide_eq_true h1)
  have e2 := e0.trans (Go.Am.bif_t h1)
  refine AW.seq (AW.r1 hC [4] [16] ⟨[(4, .ref 16 1 0)], [(16, .box 1 [.int .i64 width, .nilsl])]⟩ ?_)
  exact AW.ret (AW.retE (β := Tab) (fun v => [⟨(.named 2), v⟩]) (fun v => []) (v := (Tab.mk width ([] : List (List Val)))) e2 (by kernel_rfl) rfl rfl)
 ·
  intro h3
  have h3q : ¬ (400 < ((List.length rows : Nat) : Int)) := (of_decide_eq_false h3)
  have e4 := e0.trans (Go.Am.bif_f h3)
  refine AW.kp [1, 4, 5] [16, 20] ⟨[(1, .data (.slice (.slice (.named 1))) (rows : List (List Val))), (4, .ref 16 1 0), (5, .ref 20 1 0)], [(16, .box 1 [.int .i64 0, .nilsl]), (20, .box 1 [.int .i64 width, .nilsl])]⟩ ?_
  refine AW.skip (AW.seq (AW.seq (AW.r1 hC [1, 4, 5, 6] [16, 20] ⟨[(1, .data (.slice (.slice (.named 1))) (rows : List (List Val))), (4, .ref 16 1 0), (5, .ref 20 1 0), (6, .int .i64 0)], [(16, .box 1 [.int .i64 0, .nilsl]), (20, .box 1 [.int .i64 width, .nilsl])]⟩ ?_)))
  refine AW.adoptB 20 1 1 103 [.int .i64 width, .nilsl] (.slice (.named 1)) (by kernel_rfl) (by kernel_rfl) (by kernel_rfl) ?_
  refine AW.kp [1, 4, 5, 6] [16, 20, 103] ⟨[(1, .data (.slice (.slice (.named 1))) (rows : List (List Val))), (4, .ref 16 1 0), (5, .ref 20 1 0), (6, .int .i64 0)], [(16, .box 1 [.int .i64 0, .nilsl]), (20, .box 1 [.int .i64 width, .arr 103 1]), (103, .arr 1 (.slice (.named 1)) (([] : List (List Val)) : List (List Val)))]⟩ ?_
  refine AW.cutQ (α := (List (List Val))) (fun x => ⟨[(4, .ref 16 1 0), (5, .ref 20 1 0)], [(16, .box 1 [.int .i64 0, .nilsl]), (20, .box 1 [.int .i64 width, .arr 103 1]), (103, .arr 1 (.slice (.named 1)) (x : List (List Val)))]⟩) (fun x => (List.length x ≤ 400) ∧ (tableOf_l0 rows ((List.length rows) - 0 + 1) 0 ([] : List (List Val))) = x) ?_ ?_
  ·
   skip
   refine AW.block (AW.loopR (α := Nat × (List (List Val))) (fun x => ⟨[(1, .data (.slice (.slice (.named 1))) (rows : List (List Val))), (4, .ref 16 1 0), (5, .ref 20 1 0), (6, .int .i64 ((x.1 : Nat) : Int))], [(16, .box 1 [.int .i64 0, .nilsl]), (20, .box 1 [.int .i64 width, .arr 103 1]), (103, .arr 1 (.slice (.named 1)) (x.2 : List (List Val)))]⟩) (fun x => (List.length x.2 = x.1 ∧ x.1 ≤ 400) ∧ ∃ k, (List.length rows) - x.1 < k ∧ (tableOf_l0 rows ((List.length rows) - 0 + 1) 0 ([] : List (List Val))) = tableOf_l0 rows k x.1 x.2) (fun x => (List.length rows) - x.1) (0, ([] : List (List Val))) (by kernel_rfl) ⟨?_, _, Nat.lt_succ_self _, rfl⟩ ?_)
   ·
    show List.length ([] : List (List Val)) = 0 ∧ 0 ≤ 400
    exact ⟨rfl, by omega⟩
   ·
    intro x hR
    obtain ⟨i, ar103⟩ := x
    obtain ⟨hI0, k23, hk21, e22⟩ := hR
    replace hI0 : List.length ar103 = i ∧ i ≤ 400 := hI0
    replace hk21 : (List.length rows) - i < k23 := hk21
    obtain ⟨k23q, rfl⟩ : ∃ k, k23 = k + 1 := ⟨k23 - 1, by omega⟩
    refine AW.seq (AW.seq (AW.r1 hC [1, 4, 5, 6, 16] [16, 20, 103] ⟨[(1, .data (.slice (.slice (.named 1))) (rows : List (List Val))), (4, .ref 16 1 0), (5, .ref 20 1 0), (6, .int .i64 ((i : Nat) : Int)), (16, .bool (decide (((i : Nat) : Int) < ((List.length rows : Nat) : Int))))], [(16, .box 1 [.int .i64 0, .nilsl]), (20, .box 1 [.int .i64 width, .arr 103 1]), (103, .arr 1 (.slice (.named 1)) (ar103 : List (List Val)))]⟩ ?_))
    refine AW.cd (decide (((i : Nat) : Int) < ((List.length rows : Nat) : Int))) ?_ ?_
    ·
     intro h24
     have h24q : ((i : Nat) : Int) < ((List.length rows : Nat) : Int) := (of_decide_eq_true h24)
     have e25 := e22.trans (Go.Am.bif_t h24)
     refine AW.kp [1, 4, 5, 6] [16, 20, 103] ⟨[(1, .data (.slice (.slice (.named 1))) (rows : List (List Val))), (4, .ref 16 1 0), (5, .ref 20 1 0), (6, .int .i64 ((i : Nat) : Int))], [(16, .box 1 [.int .i64 0, .nilsl]), (20, .box 1 [.int .i64 width, .arr 103 1]), (103, .arr 1 (.slice (.named 1)) (ar103 : List (List Val)))]⟩ ?_
     refine AW.skip (AW.seq (AW.block (AW.d0 hC hM [1, 4, 5, 6] [16, 20, 100] ⟨[(1, .data (.slice (.slice (.named 1))) (rows : List (List Val))), (4, .ref 16 1 0), (5, .ref 20 1 0), (6, .int .i64 ((i : Nat) : Int))], [(16, .box 1 [.int .i64 0, .nilsl]), (20, .box 1 [.int .i64 width, .arr 100 1]), (100, .arr 1 (.slice (.named 1)) ((insertRow ar103 (List.getD rows i [])) : List (List Val)))]⟩ [(0 ≤ ((i : Nat) : Int) ∧ ((i : Nat) : Int) < ((List.length rows : Nat) : Int)), ((List.length ar103 : Int) ≤ 1048576 ∧ (List.length (List.getD rows i []) : Int) ≤ 1048576)] ?_ ?_)))
     ·
      refine ⟨?_, ?_, trivial⟩
      ·
       omega
      ·
       exact ⟨by omega, hpre i (by omega)⟩
     refine AW.r0 hC [1, 4, 5, 6] [16, 20, 100] ⟨[(1, .data (.slice (.slice (.named 1))) (rows : List (List Val))), (4, .ref 16 1 0), (5, .ref 20 1 0), (6, .int .i64 ((i + 1 : Nat) : Int))], [(16, .box 1 [.int .i64 0, .nilsl]), (20, .box 1 [.int .i64 width, .arr 100 1]), (100, .arr 1 (.slice (.named 1)) ((insertRow ar103 (List.getD rows i [])) : List (List Val)))]⟩ [(-9223372036854775808 ≤ ((i + 1 : Nat) : Int) ∧ ((i + 1 : Nat) : Int) ≤ 9223372036854775807)] ?_ ?_
     ·
      refine ⟨?_, trivial⟩
      ·
       omega
     refine AW.backR (x := (i, ar103)) (i + 1, (insertRow ar103 (List.getD rows i []))) (Turn.of [1, 4, 5, 6] [16, 20, 100] [(100, 103)] [1, 4, 5, 6] [16, 20, 103] (by kernel_rfl)) ⟨?_, k23q, ?_, e25⟩ ?_
     ·
      show List.length (insertRow ar103 (List.getD rows i [])) = (i + 1) ∧ (i + 1) ≤ 400
      rw [insertRow_len]
      omega
     ·
      show (List.length rows) - (i + 1) < k23q
      omega
     ·
      show (List.length rows) - (i + 1) < (List.length rows) - i
      omega
    ·
     intro h26
     have h26q : ¬ (((i : Nat) : Int) < ((List.length rows : Nat) : Int)) := (of_decide_eq_false h26)
     have e27 := e22.trans (Go.Am.bif_f h26)
     refine AW.kp [4, 5] [16, 20, 103] ⟨[(4, .ref 16 1 0), (5, .ref 20 1 0)], [(16, .box 1 [.int .i64 0, .nilsl]), (20, .box 1 [.int .i64 width, .arr 103 1]), (103, .arr 1 (.slice (.named 1)) (ar103 : List (List Val)))]⟩ ?_
     refine AW.exit ?_
     refine AW.meet ar103 (by kernel_rfl) ⟨?_, e27⟩
     show List.length ar103 ≤ 400
     omega
  ·
   intro ar103 hR
   obtain ⟨hJ0, e28⟩ := hR
   replace hJ0 : List.length ar103 ≤ 400 := hJ0
   have e29 := e4.trans (Go.Am.then_eq e28)
   refine AW.seq (AW.r1 hC [4] [16, 103] ⟨[(4, .ref 16 1 0)], [(16, .box 1 [.int .i64 width, .arr 103 1]), (103, .arr 1 (.slice (.named 1)) (ar103 : List (List Val)))]⟩ ?_)
   exact AW.ret (AW.retE (β := Tab) (fun v => [⟨(.named 2), v⟩]) (fun v => []) (v := (Tab.mk width ar103)) e29 (by kernel_rfl) rfl rfl)

theorem getD_appendL (a b : List (List Val)) (i : Nat) : List.getD (a ++ b) i [] = if i < a.length then List.getD a i [] else List.getD b (i - a.length) [] := by
 simp only [List.getD_eq_getElem?_getD, List.getElem?_append]
 split <;> rfl

def RB (rows : List (List Val)) : Prop := ∀ i : Nat, i < List.length rows → (List.length (List.getD rows i []) : Int) ≤ 1048576

theorem RB.add {rows : List (List Val)} {r : List Val} (h : RB rows) (hr : (r.length : Int) ≤ 1048576) : RB (rows ++ [r]) := by
 intro i hi
 rw [getD_appendL]
 split
 ·
  exact h i (by omega)
 ·
  simp only [List.length_append, List.length_cons, List.length_nil] at hi
  rw [show i - rows.length = 0 by omega]
  exact hr

theorem RB.nil : RB [] := fun i hi => absurd hi (Nat.not_lt_zero _)

end
end Go.Proofs.Ytjcjpeckfikfkaa


namespace Go.Proofs.Ytjcjpeckfikfkaa
open Go Go.Am
noncomputable section

structure Drawn (t : Tab) : Prop where
 rb : RB t.Rows
 len : t.Rows.length ≤ 200

end
end Go.Proofs.Ytjcjpeckfikfkaa
