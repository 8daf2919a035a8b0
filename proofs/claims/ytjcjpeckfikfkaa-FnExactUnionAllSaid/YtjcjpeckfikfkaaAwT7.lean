/-
  A part of the proof of this claim (AwT7): what functions of the program compute, and plain facts of that. No conditions.
-/
import Derived.Test.YtjcjpeckfikfkaaAwT2
import Derived.Test.YtjcjpeckfikfkaaAwN
set_option linter.all false
namespace Go.Proofs.Ytjcjpeckfikfkaa
open Go Go.Am
noncomputable section

def iUnionAllO_sp : FnSpec := mkSpec [.val (.named 2), .val (.named 2)] [.deep (.named 2), .val .bool] (fun (a : Tab) (b : Tab) => True) (fun (a : Tab) (b : Tab) => [⟨(.named 2), ((iUnionAll a b).1)⟩, ⟨.bool, ((iUnionAll a b).2)⟩])

theorem iUnionAllO_ok : FnOK Try.prog 37 iUnionAllO_sp := by
 have hC : CtxOK Try.prog (mkCtx tyL [(19, ValidTable_sp), (62, collectO_sp), (63, valuesF_sp), (82, concat_sp)]) := CtxOK.cons ValidTable_ok (CtxOK.cons collectO_ok (CtxOK.cons valuesF_ok (CtxOK.cons concat_ok (CtxOK.nil tyOK))))
 have hM : Try.prog.follows .mixedOrders = true := Try.checked.mixed
 refine FnOK.of_body Try.func37 (by kernel_rfl) rfl (C := (mkCtx tyL [(19, ValidTable_sp), (62, collectO_sp), (63, valuesF_sp), (82, concat_sp)])) hC.ty (by kernel_rfl) ?_
 intro (a : Tab) (b : Tab) hwf hpre E
 have hpre : True := hpre
 have hw_a : Wf ⟨(.named 2), (a : Tab)⟩ := hwf _ (List.Mem.head _)
 have hr_a_Width : -9223372036854775808 ≤ Tab.Width a ∧ Tab.Width a ≤ 9223372036854775807 := (hw_a.field (tv := ⟨(.int .i64), Tab.Width a⟩) (List.Mem.head _)).int_inv
 have hl_a_Rows : ((List.length (Tab.Rows a) : Nat) : Int) ≤ 9223372036854775807 := (hw_a.field (tv := ⟨(.slice (.slice (.named 1))), Tab.Rows a⟩) (List.Mem.tail _ (List.Mem.head _))).len
 have hw_b : Wf ⟨(.named 2), (b : Tab)⟩ := hwf _ (List.Mem.tail _ (List.Mem.head _))
 have hr_b_Width : -9223372036854775808 ≤ Tab.Width b ∧ Tab.Width b ≤ 9223372036854775807 := (hw_b.field (tv := ⟨(.int .i64), Tab.Width b⟩) (List.Mem.head _)).int_inv
 have hl_b_Rows : ((List.length (Tab.Rows b) : Nat) : Int) ≤ 9223372036854775807 := (hw_b.field (tv := ⟨(.slice (.slice (.named 1))), Tab.Rows b⟩) (List.Mem.tail _ (List.Mem.head _))).len
 have e0 : iUnionAll a b = iUnionAll a b := rfl
 refine AW.seq (AW.r1 hC [2, 3, 4] [8, 12, 16] ⟨[(2, .ref 8 1 0), (3, .ref 12 1 0), (4, .ref 16 1 0)], [(8, .box 1 [.int .i64 (Tab.Width a), .data (.slice (.slice (.named 1))) ((Tab.Rows a) : List (List Val))]), (12, .box 1 [.int .i64 (Tab.Width b), .data (.slice (.slice (.named 1))) ((Tab.Rows b) : List (List Val))]), (16, .box 1 [.int .i64 0, .nilsl])]⟩ ?_)
 refine AW.seq (AW.seq (AW.r0 hC [2, 3, 4, 20] [8, 12, 16] ⟨[(2, .ref 8 1 0), (3, .ref 12 1 0), (4, .ref 16 1 0), (20, .bool (bif (bif (!(ValidTable a)) then true else (!(ValidTable b))) then true else ((Tab.Width a) != (Tab.Width b))))], [(8, .box 1 [.int .i64 (Tab.Width a), .data (.slice (.slice (.named 1))) ((Tab.Rows a) : List (List Val))]), (12, .box 1 [.int .i64 (Tab.Width b), .data (.slice (.slice (.named 1))) ((Tab.Rows b) : List (List Val))]), (16, .box 1 [.int .i64 0, .nilsl])]⟩ [(True), (((!(ValidTable a)) = false) → (((!(ValidTable a)) = false))), (((!(ValidTable a)) = false) → (True)), (((!(ValidTable a)) = false) → (((!(ValidTable a)) = false))), (((!(ValidTable a)) = false) → (((!(ValidTable a)) = false))), (((bif (!(ValidTable a)) then true else (!(ValidTable b))) = false) → (((bif (!(ValidTable a)) then true else (!(ValidTable b))) = false))), (((bif (!(ValidTable a)) then true else (!(ValidTable b))) = false) → (((bif (!(ValidTable a)) then true else (!(ValidTable b))) = false))), (((bif (!(ValidTable a)) then true else (!(ValidTable b))) = false) → (((bif (!(ValidTable a)) then true else (!(ValidTable b))) = false))), (((bif (!(ValidTable a)) then true else (!(ValidTable b))) = false) → (((bif (!(ValidTable a)) then true else (!(ValidTable b))) = false))), (((bif (!(ValidTable a)) then true else (!(ValidTable b))) = false) → (((bif (!(ValidTable a)) then true else (!(ValidTable b))) = false)))] ?_ ?_))
 ·
  refine ⟨?_, ?_, ?_, ?_, ?_, ?_, ?_, ?_, ?_, ?_, trivial⟩
  ·
   trivial
  ·
   intro g1
   have g1p0 : (ValidTable a) = true := (Go.Am.not_neg g1)
   assumption
  ·
   intro g2
   have g2p0 : (ValidTable a) = true := (Go.Am.not_neg g2)
   trivial
  ·
   intro g3
   have g3p0 : (ValidTable a) = true := (Go.Am.not_neg g3)
   assumption
  ·
   intro g4
   have g4p0 : (ValidTable a) = true := (Go.Am.not_neg g4)
   assumption
  ·
   intro g5
   have g5p0 : ((ValidTable a) = true) ∧ ((ValidTable b) = true) := (And.imp (fun h => (Go.Am.not_neg h)) (fun h => (Go.Am.not_neg h)) (Go.Am.or_neg g5))
   assumption
  ·
   intro g6
   have g6p0 : ((ValidTable a) = true) ∧ ((ValidTable b) = true) := (And.imp (fun h => (Go.Am.not_neg h)) (fun h => (Go.Am.not_neg h)) (Go.Am.or_neg g6))
   assumption
  ·
   intro g7
   have g7p0 : ((ValidTable a) = true) ∧ ((ValidTable b) = true) := (And.imp (fun h => (Go.Am.not_neg h)) (fun h => (Go.Am.not_neg h)) (Go.Am.or_neg g7))
   assumption
  ·
   intro g8
   have g8p0 : ((ValidTable a) = true) ∧ ((ValidTable b) = true) := (And.imp (fun h => (Go.Am.not_neg h)) (fun h => (Go.Am.not_neg h)) (Go.Am.or_neg g8))
   assumption
  ·
   intro g9
   have g9p0 : ((ValidTable a) = true) ∧ ((ValidTable b) = true) := (And.imp (fun h => (Go.Am.not_neg h)) (fun h => (Go.Am.not_neg h)) (Go.Am.or_neg g9))
   assumption
 refine AW.cd (bif (bif (!(ValidTable a)) then true else (!(ValidTable b))) then true else ((Tab.Width a) != (Tab.Width b))) ?_ ?_
 ·
  intro h10
  have h10q : (((ValidTable a) = false) ∨ ((ValidTable b) = false)) ∨ ((Tab.Width a) ≠ (Tab.Width b)) := (Or.imp (fun h => (Or.imp (fun h => (Go.Am.not_pos h)) (fun h => (Go.Am.not_pos h)) (Go.Am.or_pos h))) (fun h => (Go.Am.bne_pos h)) (Go.Am.or_pos h10))
  have e11 := e0.trans (Go.Am.bif_t h10)
  refine AW.seq (AW.r1 hC [4, 5] [16] ⟨[(4, .ref 16 1 0), (5, .bool false)], [(16, .box 1 [.int .i64 0, .nilsl])]⟩ ?_)
  exact AW.ret (AW.retE (β := Tab × Bool) (fun v => [⟨(.named 2), v.1⟩, ⟨.bool, v.2⟩]) (fun v => []) (v := ((Tab.mk 0 ([] : List (List Val))), false)) e11 (by kernel_rfl) rfl rfl)
 ·
  intro h12
  have h12q : (((ValidTable a) = true) ∧ ((ValidTable b) = true)) ∧ ((Tab.Width a) = (Tab.Width b)) := (And.imp (fun h => (And.imp (fun h => (Go.Am.not_neg h)) (fun h => (Go.Am.not_neg h)) (Go.Am.or_neg h))) (fun h => (Go.Am.bne_neg h)) (Go.Am.or_neg h12))
  have e13 := e0.trans (Go.Am.bif_f h12)
  refine AW.kp [2, 3, 4] [8, 12, 16] ⟨[(2, .ref 8 1 0), (3, .ref 12 1 0), (4, .ref 16 1 0)], [(8, .box 1 [.int .i64 (Tab.Width a), .data (.slice (.slice (.named 1))) ((Tab.Rows a) : List (List Val))]), (12, .box 1 [.int .i64 (Tab.Width b), .data (.slice (.slice (.named 1))) ((Tab.Rows b) : List (List Val))]), (16, .box 1 [.int .i64 0, .nilsl])]⟩ ?_
  refine AW.skip (AW.seq (AW.d0 hC hM [4, 5] [16, 124] ⟨[(4, .ref 16 1 0), (5, .bool true)], [(16, .box 1 [.int .i64 (Tab.Width (collect (Tab.Width a) (valuesF (concat ([(Tab.Rows a), (Tab.Rows b)] : List (List (List Val))))))), .tr 124 1]), (124, .tree 1 (.slice (.named 1)) ((Tab.Rows (collect (Tab.Width a) (valuesF (concat ([(Tab.Rows a), (Tab.Rows b)] : List (List (List Val))))))) : List (List Val)))]⟩ [((List.length ([(Tab.Rows a), (Tab.Rows b)] : List (List (List Val))) : Int) ≤ 1000 ∧ (∀ jj : Nat, jj < ([(Tab.Rows a), (Tab.Rows b)] : List (List (List Val))).length → ((List.length (List.getD ([(Tab.Rows a), (Tab.Rows b)] : List (List (List Val))) jj []) : Nat) : Int) ≤ 1000000)), (True), (RowsOK (valuesF (concat ([(Tab.Rows a), (Tab.Rows b)] : List (List (List Val))))))] ?_ ?_))
  ·
   refine ⟨?_, ?_, ?_, trivial⟩
   ·
    exact two_ok (by have := (ValidTable_iff.1 h12q.1.1).n4; omega) (by have := (ValidTable_iff.1 h12q.1.2).n4; omega)
   ·
    trivial
   ·
    exact union_rows (by first | exact h12q.1.1) (by first | exact h12q.1.2) h12q.2
  exact AW.ret (AW.retE (β := Tab × Bool) (fun v => [⟨(.named 2), v.1⟩, ⟨.bool, v.2⟩]) (fun v => []) (v := ((collect (Tab.Width a) (valuesF (concat ([(Tab.Rows a), (Tab.Rows b)] : List (List (List Val)))))), true)) e13 (by kernel_rfl) rfl rfl)

end
end Go.Proofs.Ytjcjpeckfikfkaa
