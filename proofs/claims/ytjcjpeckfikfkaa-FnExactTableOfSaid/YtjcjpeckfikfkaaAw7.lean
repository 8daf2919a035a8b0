/-
  A part of the proof of this claim (Aw7): what functions of the program compute, and plain facts of that. No conditions.
-/
import Derived.Test.YtjcjpeckfikfkaaAw6
set_option linter.all false
namespace Go.Proofs.Ytjcjpeckfikfkaa
open Go Go.Am
noncomputable section

theorem getD_mem_row {rows : List (List Val)} {r : List Val} (h : r ∈ rows) : ∃ i, i < rows.length ∧ rows.getD i [] = r := by
 obtain ⟨i, hi, rfl⟩ := List.mem_iff_getElem.1 h
 exact ⟨i, hi, by rw [List.getD_eq_getElem?_getD, List.getElem?_eq_getElem hi]; rfl⟩

theorem RowsW.of_getD {wd : Nat} {rows : List (List Val)} (h : ∀ j : Nat, j < rows.length → VR (rows.getD j []) ∧ (rows.getD j []).length = wd) : RowsW wd rows := fun r hr => by
 obtain ⟨i, hi, rfl⟩ := getD_mem_row hr
 exact h i hi

theorem rows_of_getD {w : Int} {rows : List (List Val)} (h : ∀ j : Nat, j < rows.length → VR (rows.getD j []) ∧ (((rows.getD j []).length : Nat) : Int) = w) : RowsOK rows :=
 ⟨w.toNat, RowsW.of_getD fun j hj => ⟨(h j hj).1, by have := (h j hj).2; omega⟩⟩

def valuesF (s : List (List Val)) : (List (List Val)) := s

def valuesF_sp : FnSpec := mkSpec [.val (.slice (.slice (.named 1)))] [.clo 97 (.slice (.slice (.named 1)))] (fun (s : List (List Val)) => True) (fun (s : List (List Val)) => [⟨(.slice (.slice (.named 1))), (valuesF s)⟩])

theorem valuesF_ok : FnOK Try.prog 63 valuesF_sp := by
 have hC : CtxOK Try.prog (mkCtx tyL []) := CtxOK.nil tyOK
 refine FnOK.of_body Try.func63 (by kernel_rfl) rfl (C := (mkCtx tyL [])) hC.ty (by kernel_rfl) ?_
 intro (s : List (List Val)) hwf hpre E
 have hpre : True := hpre
 have hw_s : Wf ⟨(.slice (.slice (.named 1))), (s : List (List Val))⟩ := hwf _ (List.Mem.head _)
 have hl_s : ((List.length s : Nat) : Int) ≤ 9223372036854775807 := hw_s.len
 have e0 : valuesF s = valuesF s := rfl
 refine AW.seq (AW.regionO [0, 1] (by rfl) ?_)
 refine AWO.boxD (t := (.slice (.slice (.named 1)))) (sv := .data (.slice (.slice (.named 1))) (s : List (List Val))) (y := (s : List (List Val))) (by rfl) (by rfl) (by kernel_rfl) (by kernel_rfl) (by kernel_rfl) ?_
 refine AWO.keep [1] [] ⟨[(1, .dref (.slice (.slice (.named 1))) (s : List (List Val)))], []⟩ (by kernel_rfl) ?_
 refine AWO.run hC false [] [1] [] [1] []
  ⟨[(1, .dref (.slice (.slice (.named 1))) (s : List (List Val)))], []⟩
  [] (by rfl) (by kernel_rfl) ?_ ?_
 ·
  exact trivial
 refine AWO.nil ?_
 refine AW.seq (AW.r1 hC [2] [] ⟨[(2, .clo 97 [.dref (.slice (.slice (.named 1))) (s : List (List Val))])], []⟩ ?_)
 exact AW.ret (AW.retE (β := (List (List Val))) (fun v => [⟨(.slice (.slice (.named 1))), v⟩]) (fun v => []) (v := s) e0 (by kernel_rfl) rfl rfl)

def differentRowsF (rows : List (List Val)) : (List (List Val)) := rows

def differentRowsF_sp : FnSpec := mkSpec [.val (.slice (.slice (.named 1)))] [.clo 107 (.slice (.slice (.named 1)))] (fun (rows : List (List Val)) => True) (fun (rows : List (List Val)) => [⟨(.slice (.slice (.named 1))), (differentRowsF rows)⟩])

theorem differentRowsF_ok : FnOK Try.prog 79 differentRowsF_sp := by
 have hC : CtxOK Try.prog (mkCtx tyL []) := CtxOK.nil tyOK
 refine FnOK.of_body Try.func79 (by kernel_rfl) rfl (C := (mkCtx tyL [])) hC.ty (by kernel_rfl) ?_
 intro (rows : List (List Val)) hwf hpre E
 have hpre : True := hpre
 have hw_rows : Wf ⟨(.slice (.slice (.named 1))), (rows : List (List Val))⟩ := hwf _ (List.Mem.head _)
 have hl_rows : ((List.length rows : Nat) : Int) ≤ 9223372036854775807 := hw_rows.len
 have e0 : differentRowsF rows = differentRowsF rows := rfl
 refine AW.seq (AW.regionO [0, 1] (by rfl) ?_)
 refine AWO.boxD (t := (.slice (.slice (.named 1)))) (sv := .data (.slice (.slice (.named 1))) (rows : List (List Val))) (y := (rows : List (List Val))) (by rfl) (by rfl) (by kernel_rfl) (by kernel_rfl) (by kernel_rfl) ?_
 refine AWO.keep [1] [] ⟨[(1, .dref (.slice (.slice (.named 1))) (rows : List (List Val)))], []⟩ (by kernel_rfl) ?_
 refine AWO.run hC false [] [1] [] [1] []
  ⟨[(1, .dref (.slice (.slice (.named 1))) (rows : List (List Val)))], []⟩
  [] (by rfl) (by kernel_rfl) ?_ ?_
 ·
  exact trivial
 refine AWO.nil ?_
 refine AW.seq (AW.r1 hC [2] [] ⟨[(2, .clo 107 [.dref (.slice (.slice (.named 1))) (rows : List (List Val))])], []⟩ ?_)
 exact AW.ret (AW.retE (β := (List (List Val))) (fun v => [⟨(.slice (.slice (.named 1))), v⟩]) (fun v => []) (v := rows) e0 (by kernel_rfl) rfl rfl)

def iTableOf_l0 (width : Int) (rows : List (List Val)) : Nat → Nat → Unit ⊕ (Tab × Bool)
 | 0, v19 => .inl ()
 | k + 1, v19 => (bif (decide (((v19 : Nat) : Int) < ((List.length rows : Nat) : Int))) then (bif (bif (((List.length (List.getD rows v19 []) : Nat) : Int) != width) then true else (!(ivalidRow (List.getD rows v19 [])))) then (.inr ((Tab.mk 0 ([] : List (List Val))), false)) else (iTableOf_l0 width rows k (v19 + 1))) else (.inl ()))

def iTableOf (width : Int) (rows : List (List Val)) : Tab × Bool := (bif (bif (!(validWidth width)) then true else (decide (400 < ((List.length rows : Nat) : Int)))) then ((Tab.mk 0 ([] : List (List Val))), false) else (Sum.elim (fun _ => ((collect width (valuesF rows)), true)) (fun r => r) (iTableOf_l0 width rows ((List.length rows) - 0 + 1) 0)))

def iTableOf_sp : FnSpec := mkSpec [.val (.int .i64), .val (.slice (.slice (.named 1)))] [.val (.named 2), .val .bool] (fun (width : Int) (rows : List (List Val)) => True) (fun (width : Int) (rows : List (List Val)) => [⟨(.named 2), ((iTableOf width rows).1)⟩, ⟨.bool, ((iTableOf width rows).2)⟩])

theorem iTableOf_ok : FnOK Try.prog 16 iTableOf_sp := by
 have hC : CtxOK Try.prog (mkCtx tyL [(60, validWidth_sp), (61, ivalidRow_sp), (62, collect_sp), (63, valuesF_sp)]) := CtxOK.cons validWidth_ok (CtxOK.cons ivalidRow_ok (CtxOK.cons collect_ok (CtxOK.cons valuesF_ok (CtxOK.nil tyOK))))
 refine FnOK.of_body Try.func16 (by kernel_rfl) rfl (C := (mkCtx tyL [(60, validWidth_sp), (61, ivalidRow_sp), (62, collect_sp), (63, valuesF_sp)])) hC.ty (by kernel_rfl) ?_
 intro (width : Int) (rows : List (List Val)) hwf hpre E
 have hpre : True := hpre
 have hw_width : Wf ⟨(.int .i64), (width : Int)⟩ := hwf _ (List.Mem.head _)
 have hr_width : -9223372036854775808 ≤ width ∧ width ≤ 9223372036854775807 := hw_width.int_inv
 have hw_rows : Wf ⟨(.slice (.slice (.named 1))), (rows : List (List Val))⟩ := hwf _ (List.Mem.tail _ (List.Mem.head _))
 have hl_rows : ((List.length rows : Nat) : Int) ≤ 9223372036854775807 := hw_rows.len
 have e0 : iTableOf width rows = iTableOf width rows := rfl
 refine AW.seq (AW.r1 hC [0, 1, 4] [16] ⟨[(0, .int .i64 width), (1, .data (.slice (.slice (.named 1))) (rows : List (List Val))), (4, .ref 16 1 0)], [(16, .box 1 [.int .i64 0, .nilsl])]⟩ ?_)
 refine AW.seq (AW.seq (AW.r0 hC [0, 1, 4, 15] [16] ⟨[(0, .int .i64 width), (1, .data (.slice (.slice (.named 1))) (rows : List (List Val))), (4, .ref 16 1 0), (15, .bool (bif (!(validWidth width)) then true else (decide (400 < ((List.length rows : Nat) : Int)))))], [(16, .box 1 [.int .i64 0, .nilsl])]⟩ [(True), (((!(validWidth width)) = false) → (((!(validWidth width)) = false))), (((!(validWidth width)) = false) → (((!(validWidth width)) = false))), (((!(validWidth width)) = false) → (((!(validWidth width)) = false)))] ?_ ?_))
 ·
  refine ⟨?_, ?_, ?_, ?_, trivial⟩
  ·
   trivial
  ·
   intro g1
   have g1p0 : (validWidth width) = true := (Go.Am.not_neg g1)
   assumption
  ·
   intro g2
   have g2p0 : (validWidth width) = true := (Go.Am.not_neg g2)
   assumption
  ·
   intro g3
   have g3p0 : (validWidth width) = true := (Go.Am.not_neg g3)
   assumption
 refine AW.cd (bif (!(validWidth width)) then true else (decide (400 < ((List.length rows : Nat) : Int)))) ?_ ?_
 ·
  intro h4
  have h4q : ((validWidth width) = false) ∨ (400 < ((List.length rows : Nat) : Int)) := (Or.imp (fun h => (Go.Am.not_pos h)) (fun h => (of_decide_eq_true h)) (Go.Am.or_pos h4))
  have e5 := e0.trans (Go.Am.bif_t h4)
  refine AW.seq (AW.r1 hC [4, 5] [16] ⟨[(4, .ref 16 1 0), (5, .bool false)], [(16, .box 1 [.int .i64 0, .nilsl])]⟩ ?_)
  exact AW.ret (AW.retE (β := Tab × Bool) (fun v => [⟨(.named 2), v.1⟩, ⟨.bool, v.2⟩]) (fun v => []) (v := ((Tab.mk 0 ([] : List (List Val))), false)) e5 (by kernel_rfl) rfl rfl)
 ·
  intro h6
  have h6q : ((validWidth width) = true) ∧ (¬ (400 < ((List.length rows : Nat) : Int))) := (And.imp (fun h => (Go.Am.not_neg h)) (fun h => (of_decide_eq_false h)) (Go.Am.or_neg h6))
  have e7 := e0.trans (Go.Am.bif_f h6)
  refine AW.kp [0, 1, 4] [16] ⟨[(0, .int .i64 width), (1, .data (.slice (.slice (.named 1))) (rows : List (List Val))), (4, .ref 16 1 0)], [(16, .box 1 [.int .i64 0, .nilsl])]⟩ ?_
  refine AW.skip (AW.seq (AW.seq (AW.r1 hC [0, 1, 4, 17, 18, 19] [16] ⟨[(0, .int .i64 width), (1, .data (.slice (.slice (.named 1))) (rows : List (List Val))), (4, .ref 16 1 0), (17, .data (.slice (.slice (.named 1))) (rows : List (List Val))), (18, .int .i64 ((List.length rows : Nat) : Int)), (19, .int .i64 0)], [(16, .box 1 [.int .i64 0, .nilsl])]⟩ ?_)))
  refine AW.cutQ (α := Unit) (fun x => ⟨[(0, .int .i64 width), (1, .data (.slice (.slice (.named 1))) (rows : List (List Val))), (4, .ref 16 1 0)], [(16, .box 1 [.int .i64 0, .nilsl])]⟩) (fun x => (RowsOK rows) ∧ (iTableOf_l0 width rows ((List.length rows) - 0 + 1) 0) = (.inl ())) ?_ ?_
  ·
   skip
   refine AW.block (AW.loop (α := Nat) (fun x => ⟨[(0, .int .i64 width), (1, .data (.slice (.slice (.named 1))) (rows : List (List Val))), (4, .ref 16 1 0), (17, .data (.slice (.slice (.named 1))) (rows : List (List Val))), (18, .int .i64 ((List.length rows : Nat) : Int)), (19, .int .i64 ((x : Nat) : Int))], [(16, .box 1 [.int .i64 0, .nilsl])]⟩) (fun x => ((∀ j : Nat, j < x → VR (rows.getD j []) ∧ (((rows.getD j []).length : Nat) : Int) = width) ∧ x ≤ List.length rows) ∧ ∃ k, (List.length rows) - x < k ∧ (iTableOf_l0 width rows ((List.length rows) - 0 + 1) 0) = iTableOf_l0 width rows k x) (fun x => (List.length rows) - x) 0 (by kernel_rfl) ⟨?_, _, Nat.lt_succ_self _, rfl⟩ ?_)
   ·
    show (∀ j : Nat, j < 0 → VR (rows.getD j []) ∧ (((rows.getD j []).length : Nat) : Int) = width) ∧ 0 ≤ List.length rows
    exact ⟨fun j hj => absurd hj (Nat.not_lt_zero _), Nat.zero_le _⟩
   ·
    intro v19 hR
    obtain ⟨hI0, k37, hk35, e36⟩ := hR
    replace hI0 : (∀ j : Nat, j < v19 → VR (rows.getD j []) ∧ (((rows.getD j []).length : Nat) : Int) = width) ∧ v19 ≤ List.length rows := hI0
    replace hk35 : (List.length rows) - v19 < k37 := hk35
    obtain ⟨k37q, rfl⟩ : ∃ k, k37 = k + 1 := ⟨k37 - 1, by omega⟩
    refine AW.seq (AW.r1 hC [0, 1, 4, 17, 18, 19, 20] [16] ⟨[(0, .int .i64 width), (1, .data (.slice (.slice (.named 1))) (rows : List (List Val))), (4, .ref 16 1 0), (17, .data (.slice (.slice (.named 1))) (rows : List (List Val))), (18, .int .i64 ((List.length rows : Nat) : Int)), (19, .int .i64 ((v19 : Nat) : Int)), (20, .bool (decide (((v19 : Nat) : Int) < ((List.length rows : Nat) : Int))))], [(16, .box 1 [.int .i64 0, .nilsl])]⟩ ?_)
    refine AW.seq (AW.cd (decide (((v19 : Nat) : Int) < ((List.length rows : Nat) : Int))) ?_ ?_)
    ·
     intro h38
     have h38q : ((v19 : Nat) : Int) < ((List.length rows : Nat) : Int) := (of_decide_eq_true h38)
     have e39 := e36.trans (Go.Am.bif_t h38)
     refine AW.kp [0, 1, 4, 17, 18, 19] [16] ⟨[(0, .int .i64 width), (1, .data (.slice (.slice (.named 1))) (rows : List (List Val))), (4, .ref 16 1 0), (17, .data (.slice (.slice (.named 1))) (rows : List (List Val))), (18, .int .i64 ((List.length rows : Nat) : Int)), (19, .int .i64 ((v19 : Nat) : Int))], [(16, .box 1 [.int .i64 0, .nilsl])]⟩ ?_
     refine AW.skip (AW.seq (AW.block (AW.seq (AW.r0 hC [0, 1, 4, 7, 17, 18, 19] [16] ⟨[(0, .int .i64 width), (1, .data (.slice (.slice (.named 1))) (rows : List (List Val))), (4, .ref 16 1 0), (7, .data (.slice (.named 1)) ((List.getD rows v19 []) : List Val)), (17, .data (.slice (.slice (.named 1))) (rows : List (List Val))), (18, .int .i64 ((List.length rows : Nat) : Int)), (19, .int .i64 ((v19 : Nat) : Int))], [(16, .box 1 [.int .i64 0, .nilsl])]⟩ [(0 ≤ ((v19 : Nat) : Int) ∧ ((v19 : Nat) : Int) < ((List.length rows : Nat) : Int))] ?_ ?_))))
     ·
      refine ⟨?_, trivial⟩
      ·
       omega
     refine AW.seq (AW.r0 hC [0, 1, 4, 17, 18, 19, 31] [16] ⟨[(0, .int .i64 width), (1, .data (.slice (.slice (.named 1))) (rows : List (List Val))), (4, .ref 16 1 0), (17, .data (.slice (.slice (.named 1))) (rows : List (List Val))), (18, .int .i64 ((List.length rows : Nat) : Int)), (19, .int .i64 ((v19 : Nat) : Int)), (31, .bool (bif (((List.length (List.getD rows v19 []) : Nat) : Int) != width) then true else (!(ivalidRow (List.getD rows v19 [])))))], [(16, .box 1 [.int .i64 0, .nilsl])]⟩ [(((((List.length (List.getD rows v19 []) : Nat) : Int) != width) = false) → (((((List.length (List.getD rows v19 []) : Nat) : Int) != width) = false))), (((((List.length (List.getD rows v19 []) : Nat) : Int) != width) = false) → (True)), (((((List.length (List.getD rows v19 []) : Nat) : Int) != width) = false) → (((((List.length (List.getD rows v19 []) : Nat) : Int) != width) = false))), (((((List.length (List.getD rows v19 []) : Nat) : Int) != width) = false) → (((((List.length (List.getD rows v19 []) : Nat) : Int) != width) = false)))] ?_ ?_)
     ·
      refine ⟨?_, ?_, ?_, ?_, trivial⟩
      ·
       intro g40
       have g40p0 : ((List.length (List.getD rows v19 []) : Nat) : Int) = width := (Go.Am.bne_neg g40)
       assumption
      ·
       intro g41
       have g41p0 : ((List.length (List.getD rows v19 []) : Nat) : Int) = width := (Go.Am.bne_neg g41)
       trivial
      ·
       intro g42
       have g42p0 : ((List.length (List.getD rows v19 []) : Nat) : Int) = width := (Go.Am.bne_neg g42)
       assumption
      ·
       intro g43
       have g43p0 : ((List.length (List.getD rows v19 []) : Nat) : Int) = width := (Go.Am.bne_neg g43)
       assumption
     refine AW.cd (bif (((List.length (List.getD rows v19 []) : Nat) : Int) != width) then true else (!(ivalidRow (List.getD rows v19 [])))) ?_ ?_
     ·
      intro h44
      have h44q : (((List.length (List.getD rows v19 []) : Nat) : Int) ≠ width) ∨ ((ivalidRow (List.getD rows v19 [])) = false) := (Or.imp (fun h => (Go.Am.bne_pos h)) (fun h => (Go.Am.not_pos h)) (Go.Am.or_pos h44))
      have e45 := e39.trans (Go.Am.bif_t h44)
      refine AW.seq (AW.r1 hC [4, 5] [16] ⟨[(4, .ref 16 1 0), (5, .bool false)], [(16, .box 1 [.int .i64 0, .nilsl])]⟩ ?_)
      refine AW.ret ?_
      have e46 := e7.trans (Go.Am.elim_r e45)
      exact AW.retE (β := Tab × Bool) (fun v => [⟨(.named 2), v.1⟩, ⟨.bool, v.2⟩]) (fun v => []) (v := ((Tab.mk 0 ([] : List (List Val))), false)) e46 (by kernel_rfl) rfl rfl
     ·
      intro h47
      have h47q : (((List.length (List.getD rows v19 []) : Nat) : Int) = width) ∧ ((ivalidRow (List.getD rows v19 [])) = true) := (And.imp (fun h => (Go.Am.bne_neg h)) (fun h => (Go.Am.not_neg h)) (Go.Am.or_neg h47))
      have e48 := e39.trans (Go.Am.bif_f h47)
      refine AW.kp [0, 1, 4, 17, 18, 19] [16] ⟨[(0, .int .i64 width), (1, .data (.slice (.slice (.named 1))) (rows : List (List Val))), (4, .ref 16 1 0), (17, .data (.slice (.slice (.named 1))) (rows : List (List Val))), (18, .int .i64 ((List.length rows : Nat) : Int)), (19, .int .i64 ((v19 : Nat) : Int))], [(16, .box 1 [.int .i64 0, .nilsl])]⟩ ?_
      refine AW.skip (AW.r0 hC [0, 1, 4, 17, 18, 19] [16] ⟨[(0, .int .i64 width), (1, .data (.slice (.slice (.named 1))) (rows : List (List Val))), (4, .ref 16 1 0), (17, .data (.slice (.slice (.named 1))) (rows : List (List Val))), (18, .int .i64 ((List.length rows : Nat) : Int)), (19, .int .i64 ((v19 + 1 : Nat) : Int))], [(16, .box 1 [.int .i64 0, .nilsl])]⟩ [(-9223372036854775808 ≤ ((v19 + 1 : Nat) : Int) ∧ ((v19 + 1 : Nat) : Int) ≤ 9223372036854775807)] ?_ ?_)
      ·
       refine ⟨?_, trivial⟩
       ·
        omega
      refine AW.back (x := v19) (v19 + 1) (by kernel_rfl) ⟨?_, k37q, ?_, e48⟩ ?_
      ·
       show (∀ j : Nat, j < (v19 + 1) → VR (rows.getD j []) ∧ (((rows.getD j []).length : Nat) : Int) = width) ∧ (v19 + 1) ≤ List.length rows
       refine ⟨fun j hj => ?_, by omega⟩
       by_cases hjj : j < v19
       ·
        exact hI0.1 j hjj
       ·
        obtain rfl : j = v19 := by omega
        exact ⟨ivalidRow_iff.1 (h47q.2), h47q.1⟩
      ·
       show (List.length rows) - (v19 + 1) < k37q
       omega
      ·
       show (List.length rows) - (v19 + 1) < (List.length rows) - v19
       omega
    ·
     intro h49
     have h49q : ¬ (((v19 : Nat) : Int) < ((List.length rows : Nat) : Int)) := (of_decide_eq_false h49)
     have e50 := e36.trans (Go.Am.bif_f h49)
     refine AW.kp [0, 1, 4] [16] ⟨[(0, .int .i64 width), (1, .data (.slice (.slice (.named 1))) (rows : List (List Val))), (4, .ref 16 1 0)], [(16, .box 1 [.int .i64 0, .nilsl])]⟩ ?_
     refine AW.exit ?_
     refine AW.meet () (by kernel_rfl) ⟨?_, e50⟩
     show RowsOK rows
     exact rows_of_getD fun j hj => hI0.1 j (by omega)
  ·
   intro x hR
   obtain ⟨hJ0, e51⟩ := hR
   replace hJ0 : RowsOK rows := hJ0
   have e52 := e7.trans (Go.Am.elim_l e51)
   refine AW.seq (AW.r0 hC [4, 5] [16] ⟨[(4, .ref 16 1 0), (5, .bool true)], [(16, .box 1 [.int .i64 (Tab.Width (collect width (valuesF rows))), .data (.slice (.slice (.named 1))) ((Tab.Rows (collect width (valuesF rows))) : List (List Val))])]⟩ [(True), (RowsOK (valuesF rows))] ?_ ?_)
   ·
    refine ⟨?_, ?_, trivial⟩
    ·
     trivial
    ·
     exact hJ0
   exact AW.ret (AW.retE (β := Tab × Bool) (fun v => [⟨(.named 2), v.1⟩, ⟨.bool, v.2⟩]) (fun v => []) (v := ((collect width (valuesF rows)), true)) e52 (by kernel_rfl) rfl rfl)

end
end Go.Proofs.Ytjcjpeckfikfkaa
