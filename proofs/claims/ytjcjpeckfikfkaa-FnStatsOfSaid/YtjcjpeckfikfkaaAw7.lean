/-
  A part of the proof of this claim (Aw7): what functions of the program compute, and plain facts of that. No conditions.
-/
import Derived.Test.YtjcjpeckfikfkaaAw6
set_option linter.all false
namespace Go.Proofs.Ytjcjpeckfikfkaa
open Go Go.Am
open Go.Am.AW (seq r1U ret kpU cdE r0U r1 meet block rS bk exit lpB)
open List (length getD)
noncomputable section

theorem getD_mem_row {rows : List (List Val)} {r : List Val} (h : r ∈ rows) : ∃ i, i < rows.length ∧ rows.getD i [] = r := by
 obtain ⟨i, hi, rfl⟩ := List.mem_iff_getElem.1 h; exact ⟨i, hi, by rw [List.getD_eq_getElem?_getD, List.getElem?_eq_getElem hi]; rfl⟩

theorem RowsW.of_getD {wd : Nat} {rows : List (List Val)} (h : ∀ j : Nat, j < rows.length → VR (rows.getD j []) ∧ (rows.getD j []).length = wd) : RowsW wd rows := fun r hr => by
 obtain ⟨i, hi, rfl⟩ := getD_mem_row hr; exact h i hi

theorem rows_of_getD {w : Int} {rows : List (List Val)} (h : ∀ j : Nat, j < rows.length → VR (rows.getD j []) ∧ (((rows.getD j []).length : Nat) : Int) = w) : RowsOK rows :=
 ⟨w.toNat, RowsW.of_getD fun j hj => ⟨(h j hj).1, by have := (h j hj).2; omega⟩⟩

def valuesF (s : List (List Val)) : (List (List Val)) := s

def valuesF_sp : FnSpec := mkSpec [.val (.slice (.slice (.named 1)))] [.clo 97 (.slice (.slice (.named 1)))] (fun (s : List (List Val)) => True) (fun (s : List (List Val)) => [⟨(.slice (.slice (.named 1))), (valuesF s)⟩])

theorem valuesF_ok : FnOK Try.prog 63 valuesF_sp := by
 have hC : CtxOK Try.prog (mkCtx tyL []) := CtxOK.nil tyOK; refine FnOK.of_body Try.func63 (by kernel_rfl) rfl (C := (mkCtx tyL [])) hC.ty (by kernel_rfl) ?_; intro (s : List (List Val)) hwf hpre E; have e0 : valuesF s = valuesF s := rfl; refine seq (AW.regionO [0, 1] (by rfl) ?_); refine AWO.boxD (t := (.slice (.slice (.named 1)))) (sv := .data (.slice (.slice (.named 1))) (s : List (List Val))) (y := (s : List (List Val))) (by rfl) (by rfl) (by kernel_rfl) (by kernel_rfl) (by kernel_rfl) ?_; refine AWO.keep [1] [] ⟨[(1, .dref (.slice (.slice (.named 1))) (s : List (List Val)))], []⟩ (by kernel_rfl) ?_
 refine AWO.runU hC false [] [1] [] [1] []
  [] []
  [] (by rfl) (by kernel_rfl) ?_ ?_
 · exact trivial
 refine AWO.nil ?_; refine seq (r1 hC [2] [] ⟨[(2, .clo 97 [.dref (.slice (.slice (.named 1))) (s : List (List Val))])], []⟩ ?_); exact ret (rS (.slice (.slice (.named 1))) e0)

def differentRowsF (rows : List (List Val)) : (List (List Val)) := rows

def differentRowsF_sp : FnSpec := mkSpec [.val (.slice (.slice (.named 1)))] [.clo 107 (.slice (.slice (.named 1)))] (fun (rows : List (List Val)) => True) (fun (rows : List (List Val)) => [⟨(.slice (.slice (.named 1))), (differentRowsF rows)⟩])

theorem differentRowsF_ok : FnOK Try.prog 79 differentRowsF_sp := by
 have hC : CtxOK Try.prog (mkCtx tyL []) := CtxOK.nil tyOK; refine FnOK.of_body Try.func79 (by kernel_rfl) rfl (C := (mkCtx tyL [])) hC.ty (by kernel_rfl) ?_; intro (rows : List (List Val)) hwf hpre E; have e0 : differentRowsF rows = differentRowsF rows := rfl; refine seq (AW.regionO [0, 1] (by rfl) ?_); refine AWO.boxD (t := (.slice (.slice (.named 1)))) (sv := .data (.slice (.slice (.named 1))) (rows : List (List Val))) (y := (rows : List (List Val))) (by rfl) (by rfl) (by kernel_rfl) (by kernel_rfl) (by kernel_rfl) ?_; refine AWO.keep [1] [] ⟨[(1, .dref (.slice (.slice (.named 1))) (rows : List (List Val)))], []⟩ (by kernel_rfl) ?_
 refine AWO.runU hC false [] [1] [] [1] []
  [] []
  [] (by rfl) (by kernel_rfl) ?_ ?_
 · exact trivial
 refine AWO.nil ?_; refine seq (r1 hC [2] [] ⟨[(2, .clo 107 [.dref (.slice (.slice (.named 1))) (rows : List (List Val))])], []⟩ ?_); exact ret (rS (.slice (.slice (.named 1))) e0)

def iTableOf_l0 (width : Int) (rows : List (List Val)) : Nat → Nat → Unit ⊕ (Tab × Bool)
 | 0, v19 => .inl ()
 | k + 1, v19 => (bif (decide ((v19 : Int) < (length rows : Int))) then (bif (bif ((length (getD rows v19 []) : Int) != width) then true else (!(ivalidRow (getD rows v19 [])))) then (.inr ((Tab.mk 0 ([] : List (List Val))), false)) else (iTableOf_l0 width rows k (v19 + 1))) else (.inl ()))

def iTableOf (width : Int) (rows : List (List Val)) : Tab × Bool := (bif (bif (!(validWidth width)) then true else (decide (400 < (length rows : Int)))) then ((Tab.mk 0 ([] : List (List Val))), false) else (Sum.elim (fun _ => ((collect width (valuesF rows)), true)) (fun r => r) (iTableOf_l0 width rows ((length rows) - 0 + 1) 0)))

def iTableOf_sp : FnSpec := mkSpec [.val (.int .i64), .val (.slice (.slice (.named 1)))] [.val (.named 2), .val .bool] (fun (width : Int) (rows : List (List Val)) => True) (fun (width : Int) (rows : List (List Val)) => [⟨(.named 2), ((iTableOf width rows).1)⟩, ⟨.bool, ((iTableOf width rows).2)⟩])

theorem iTableOf_ok : FnOK Try.prog 16 iTableOf_sp := by
 have hC : CtxOK Try.prog (mkCtx tyL [(60, validWidth_sp), (61, ivalidRow_sp), (62, collect_sp), (63, valuesF_sp)]) := CtxOK.cons validWidth_ok (CtxOK.cons ivalidRow_ok (CtxOK.cons collect_ok (CtxOK.cons valuesF_ok (CtxOK.nil tyOK)))); refine FnOK.of_body Try.func16 (by kernel_rfl) rfl (C := (mkCtx tyL [(60, validWidth_sp), (61, ivalidRow_sp), (62, collect_sp), (63, valuesF_sp)])) hC.ty (by kernel_rfl) ?_; intro (width : Int) (rows : List (List Val)) hwf hpre E; have e0 : iTableOf width rows = iTableOf width rows := rfl; refine seq (r1U hC [0, 1, 4] [16] [(4, .ref 16 1 0)] [(16, .box 1 [.int .i64 0, .nilsl])] ?_); refine seq (seq (r0U hC [0, 1, 4, 15] [16] [(15, .bool (bif (!(validWidth width)) then true else (decide (400 < (length rows : Int)))))] [] [(True), (((!(validWidth width)) = false) → (((!(validWidth width)) = false))), (((!(validWidth width)) = false) → (((!(validWidth width)) = false))), (((!(validWidth width)) = false) → (((!(validWidth width)) = false)))] ?_ ?_))
 ·
  exact ⟨trivial, (by intro g1; assumption), (by intro g2; assumption), (by intro g3; assumption), trivial⟩
 refine cdE e0 ?_ ?_
 · intro h4q e5; refine seq (r1U hC [4, 5] [16] [(5, .bool false)] [] ?_); exact ret (AW.retE (β := Tab × Bool) (fun v => [⟨(.named 2), v.1⟩, ⟨.bool, v.2⟩]) (fun v => []) (v := ((Tab.mk 0 ([] : List (List Val))), false)) e5 (by kernel_rfl) rfl rfl)
 ·
  intro h6q e7; refine kpU [0, 1, 4] [16] [] [] ?_; refine AW.skip (seq (seq (r1U hC [0, 1, 4, 17, 18, 19] [16] [(17, .data (.slice (.slice (.named 1))) (rows : List (List Val))), (18, .int .i64 (length rows : Int)), (19, .int .i64 0)] [] ?_))); refine lpB (ζ := Unit) (fun x => ⟨[(0, .int .i64 width), (1, .data (.slice (.slice (.named 1))) (rows : List (List Val))), (4, .ref 16 1 0)], [(16, .box 1 [.int .i64 0, .nilsl])]⟩) (fun x => RowsOK rows) (fun x => (.inl ())) (α := Nat) (fun x => ⟨[(0, .int .i64 width), (1, .data (.slice (.slice (.named 1))) (rows : List (List Val))), (4, .ref 16 1 0), (17, .data (.slice (.slice (.named 1))) (rows : List (List Val))), (18, .int .i64 (length rows : Int)), (19, .int .i64 (x : Int))], [(16, .box 1 [.int .i64 0, .nilsl])]⟩) (fun x => (∀ j : Nat, j < x → VR (rows.getD j []) ∧ (((rows.getD j []).length : Nat) : Int) = width) ∧ x ≤ length rows) (fun x => (length rows) - x) (fun k x => iTableOf_l0 width rows k x) 0 (by kernel_rfl) ?_ ?_ ?_
  · exact ⟨fun j hj => absurd hj (Nat.not_lt_zero _), Nat.zero_le _⟩
  ·
   intro v19 k37q hI0 hk35 e36; refine seq (r1U hC [0, 1, 4, 17, 18, 19, 20] [16] [(20, .bool (decide ((v19 : Int) < (length rows : Int))))] [] ?_); refine seq (cdE e36 ?_ ?_)
   ·
    intro h38q e39; refine kpU [0, 1, 4, 17, 18, 19] [16] [] [] ?_; refine AW.skip (seq (block (seq (r0U hC [0, 1, 4, 7, 17, 18, 19] [16] [(7, .data (.slice (.named 1)) ((getD rows v19 []) : List Val))] [] [(0 ≤ (v19 : Int) ∧ (v19 : Int) < (length rows : Int))] ?_ ?_))))
    ·
     exact ⟨(by omega), trivial⟩
    refine seq (r0U hC [0, 1, 4, 17, 18, 19, 31] [16] [(31, .bool (bif ((length (getD rows v19 []) : Int) != width) then true else (!(ivalidRow (getD rows v19 [])))))] [] [((((length (getD rows v19 []) : Int) != width) = false) → ((((length (getD rows v19 []) : Int) != width) = false))), ((((length (getD rows v19 []) : Int) != width) = false) → (True)), ((((length (getD rows v19 []) : Int) != width) = false) → ((((length (getD rows v19 []) : Int) != width) = false))), ((((length (getD rows v19 []) : Int) != width) = false) → ((((length (getD rows v19 []) : Int) != width) = false)))] ?_ ?_)
    ·
     exact ⟨(by intro g40; assumption), (by intro g41; trivial), (by intro g42; assumption), (by intro g43; assumption), trivial⟩
    refine cdE e39 ?_ ?_
    · intro h44q e45; refine seq (r1U hC [4, 5] [16] [(5, .bool false)] [] ?_); refine ret ?_; have e46 := e7.trans (elim_r e45); exact AW.retE (β := Tab × Bool) (fun v => [⟨(.named 2), v.1⟩, ⟨.bool, v.2⟩]) (fun v => []) (v := ((Tab.mk 0 ([] : List (List Val))), false)) e46 (by kernel_rfl) rfl rfl
    ·
     intro h47q e48; refine kpU [0, 1, 4, 17, 18, 19] [16] [] [] ?_; refine AW.skip (r0U hC [0, 1, 4, 17, 18, 19] [16] [(19, .int .i64 ((v19 + 1 : Nat) : Int))] [] [(-9223372036854775808 ≤ ((v19 + 1 : Nat) : Int) ∧ ((v19 + 1 : Nat) : Int) ≤ 9223372036854775807)] ?_ ?_)
     ·
      exact ⟨(by omega), trivial⟩
     refine bk (v19 + 1) e48 hk35 ?_ ?_
     ·
      refine ⟨fun j hj => ?_, by omega⟩; by_cases hjj : j < v19
      · exact hI0.1 j hjj
      · (obtain rfl : j = v19 := by omega); exact ⟨ivalidRow_iff.1 (h47q.2), h47q.1⟩
     · omega
   · intro h49q e50; refine kpU [0, 1, 4] [16] [] [] ?_; refine exit ?_; refine meet () (by kernel_rfl) ⟨?_, e50⟩; exact rows_of_getD fun j hj => hI0.1 j (by omega)
  ·
   intro x hJ0 e51; have e52 := e7.trans (elim_l e51); refine seq (r0U hC [4, 5] [16] [(5, .bool true)] [(16, .box 1 [.int .i64 (Tab.Width (collect width (valuesF rows))), .data (.slice (.slice (.named 1))) ((Tab.Rows (collect width (valuesF rows))) : List (List Val))])] [(True), (RowsOK (valuesF rows))] ?_ ?_)
   ·
    exact ⟨trivial, hJ0, trivial⟩
   exact ret (AW.retE (β := Tab × Bool) (fun v => [⟨(.named 2), v.1⟩, ⟨.bool, v.2⟩]) (fun v => []) (v := ((collect width (valuesF rows)), true)) e52 (by kernel_rfl) rfl rfl)

end
end Go.Proofs.Ytjcjpeckfikfkaa
