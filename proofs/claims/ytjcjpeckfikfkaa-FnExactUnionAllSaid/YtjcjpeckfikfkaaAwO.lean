/-
  A part of the proof of this claim (AwO): what functions of the program compute, and plain facts of that. No conditions.
-/
import Derived.Test.YtjcjpeckfikfkaaAwN
import Derived.Test.YtjcjpeckfikfkaaAwF
set_option linter.all false
namespace Go.Proofs.Ytjcjpeckfikfkaa
open Go Go.Am
noncomputable section

def unionAll (a : Tab) (b : Tab) : Tab := (tableOf (Tab.Width a) ((([] : List (List Val)) ++ (Tab.Rows a)) ++ (Tab.Rows b)))

def unionAll_sp : FnSpec := mkSpec [.val (.named 2), .val (.named 2)] [.val (.named 2)] (fun (a : Tab) (b : Tab) => (List.length a.Rows ≤ 400 ∧ List.length b.Rows ≤ 400) ∧ RowsOK a.Rows ∧ RowsOK b.Rows) (fun (a : Tab) (b : Tab) => [⟨(.named 2), (unionAll a b)⟩])

theorem unionAll_ok : FnOK Try.prog 83 unionAll_sp := by
 have hC : CtxOK Try.prog (mkCtx tyL [(66, tableOf_sp)]) := CtxOK.cons tableOf_ok (CtxOK.nil tyOK)
 have hM : Try.prog.follows .mixedOrders = true := Try.checked.mixed
 refine FnOK.of_body Try.func83 (by kernel_rfl) rfl (C := (mkCtx tyL [(66, tableOf_sp)])) hC.ty (by kernel_rfl) ?_
 intro (a : Tab) (b : Tab) hwf hpre E
 have hpre : (List.length a.Rows ≤ 400 ∧ List.length b.Rows ≤ 400) ∧ RowsOK a.Rows ∧ RowsOK b.Rows := hpre
 have hw_a : Wf ⟨(.named 2), (a : Tab)⟩ := hwf _ (List.Mem.head _)
 have hr_a_Width : -9223372036854775808 ≤ Tab.Width a ∧ Tab.Width a ≤ 9223372036854775807 := (hw_a.field (tv := ⟨(.int .i64), Tab.Width a⟩) (List.Mem.head _)).int_inv
 have hl_a_Rows : ((List.length (Tab.Rows a) : Nat) : Int) ≤ 9223372036854775807 := (hw_a.field (tv := ⟨(.slice (.slice (.named 1))), Tab.Rows a⟩) (List.Mem.tail _ (List.Mem.head _))).len
 have hw_b : Wf ⟨(.named 2), (b : Tab)⟩ := hwf _ (List.Mem.tail _ (List.Mem.head _))
 have hr_b_Width : -9223372036854775808 ≤ Tab.Width b ∧ Tab.Width b ≤ 9223372036854775807 := (hw_b.field (tv := ⟨(.int .i64), Tab.Width b⟩) (List.Mem.head _)).int_inv
 have hl_b_Rows : ((List.length (Tab.Rows b) : Nat) : Int) ≤ 9223372036854775807 := (hw_b.field (tv := ⟨(.slice (.slice (.named 1))), Tab.Rows b⟩) (List.Mem.tail _ (List.Mem.head _))).len
 have e0 : unionAll a b = unionAll a b := rfl
 refine AW.seq (AW.r1 hC [2, 3, 4] [8, 12, 16] ⟨[(2, .ref 8 1 0), (3, .ref 12 1 0), (4, .ref 16 1 0)], [(8, .box 1 [.int .i64 (Tab.Width a), .data (.slice (.slice (.named 1))) ((Tab.Rows a) : List (List Val))]), (12, .box 1 [.int .i64 (Tab.Width b), .data (.slice (.slice (.named 1))) ((Tab.Rows b) : List (List Val))]), (16, .box 1 [.int .i64 0, .nilsl])]⟩ ?_)
 refine AW.seq (AW.d0 hC hM [4] [16] ⟨[(4, .ref 16 1 0)], [(16, .box 1 [.int .i64 (Tab.Width (tableOf (Tab.Width a) ((([] : List (List Val)) ++ (Tab.Rows a)) ++ (Tab.Rows b)))), .data (.slice (.slice (.named 1))) ((Tab.Rows (tableOf (Tab.Width a) ((([] : List (List Val)) ++ (Tab.Rows a)) ++ (Tab.Rows b)))) : List (List Val))])]⟩ [(0 + ((List.length (Tab.Rows a) : Nat) : Int) ≤ 4294967296), (((List.length (([] : List (List Val)) ++ (Tab.Rows a)) : Nat) : Int) + ((List.length (Tab.Rows b) : Nat) : Int) ≤ 4294967296), (∀ i : Nat, i < List.length ((([] : List (List Val)) ++ (Tab.Rows a)) ++ (Tab.Rows b)) → (List.length (List.getD ((([] : List (List Val)) ++ (Tab.Rows a)) ++ (Tab.Rows b)) i []) : Int) ≤ 1048576)] ?_ ?_)
 ·
  refine ⟨?_, ?_, ?_, trivial⟩
  ·
   omega
  ·
   simp only [List.length_append, List.length_nil]; omega
  ·
   intro i hi
   have hm := getD_mem _ i [] hi
   rcases List.mem_append.1 hm with hm | hm
   ·
    rcases List.mem_append.1 hm with hm | hm
    ·
     cases hm
    ·
     have := (hpre.2.1.len hm).2
     omega
   ·
    have := (hpre.2.2.len hm).2
    omega
 exact AW.ret (AW.retE (β := Tab) (fun v => [⟨(.named 2), v⟩]) (fun v => []) (v := (tableOf (Tab.Width a) ((([] : List (List Val)) ++ (Tab.Rows a)) ++ (Tab.Rows b)))) e0 (by kernel_rfl) rfl rfl)

def sUnionAll (a : Tab) (b : Tab) : Tab × Bool := (bif (bif (bif (!(validTable a)) then true else (!(validTable b))) then true else ((Tab.Width a) != (Tab.Width b))) then ((Tab.mk 0 ([] : List (List Val))), false) else ((unionAll a b), true))

def sUnionAll_sp : FnSpec := mkSpec [.val (.named 2), .val (.named 2)] [.val (.named 2), .val .bool] (fun (a : Tab) (b : Tab) => True) (fun (a : Tab) (b : Tab) => [⟨(.named 2), ((sUnionAll a b).1)⟩, ⟨.bool, ((sUnionAll a b).2)⟩])

theorem sUnionAll_ok : FnOK Try.prog 38 sUnionAll_sp := by
 have hC : CtxOK Try.prog (mkCtx tyL [(77, validTable_sp), (83, unionAll_sp)]) := CtxOK.cons validTable_ok (CtxOK.cons unionAll_ok (CtxOK.nil tyOK))
 refine FnOK.of_body Try.func38 (by kernel_rfl) rfl (C := (mkCtx tyL [(77, validTable_sp), (83, unionAll_sp)])) hC.ty (by kernel_rfl) ?_
 intro (a : Tab) (b : Tab) hwf hpre E
 have hpre : True := hpre
 have hw_a : Wf ⟨(.named 2), (a : Tab)⟩ := hwf _ (List.Mem.head _)
 have hr_a_Width : -9223372036854775808 ≤ Tab.Width a ∧ Tab.Width a ≤ 9223372036854775807 := (hw_a.field (tv := ⟨(.int .i64), Tab.Width a⟩) (List.Mem.head _)).int_inv
 have hl_a_Rows : ((List.length (Tab.Rows a) : Nat) : Int) ≤ 9223372036854775807 := (hw_a.field (tv := ⟨(.slice (.slice (.named 1))), Tab.Rows a⟩) (List.Mem.tail _ (List.Mem.head _))).len
 have hw_b : Wf ⟨(.named 2), (b : Tab)⟩ := hwf _ (List.Mem.tail _ (List.Mem.head _))
 have hr_b_Width : -9223372036854775808 ≤ Tab.Width b ∧ Tab.Width b ≤ 9223372036854775807 := (hw_b.field (tv := ⟨(.int .i64), Tab.Width b⟩) (List.Mem.head _)).int_inv
 have hl_b_Rows : ((List.length (Tab.Rows b) : Nat) : Int) ≤ 9223372036854775807 := (hw_b.field (tv := ⟨(.slice (.slice (.named 1))), Tab.Rows b⟩) (List.Mem.tail _ (List.Mem.head _))).len
 have e0 : sUnionAll a b = sUnionAll a b := rfl
 refine AW.seq (AW.r1 hC [2, 3, 4] [8, 12, 16] ⟨[(2, .ref 8 1 0), (3, .ref 12 1 0), (4, .ref 16 1 0)], [(8, .box 1 [.int .i64 (Tab.Width a), .data (.slice (.slice (.named 1))) ((Tab.Rows a) : List (List Val))]), (12, .box 1 [.int .i64 (Tab.Width b), .data (.slice (.slice (.named 1))) ((Tab.Rows b) : List (List Val))]), (16, .box 1 [.int .i64 0, .nilsl])]⟩ ?_)
 refine AW.seq (AW.seq (AW.r0 hC [2, 3, 4, 20] [8, 12, 16] ⟨[(2, .ref 8 1 0), (3, .ref 12 1 0), (4, .ref 16 1 0), (20, .bool (bif (bif (!(validTable a)) then true else (!(validTable b))) then true else ((Tab.Width a) != (Tab.Width b))))], [(8, .box 1 [.int .i64 (Tab.Width a), .data (.slice (.slice (.named 1))) ((Tab.Rows a) : List (List Val))]), (12, .box 1 [.int .i64 (Tab.Width b), .data (.slice (.slice (.named 1))) ((Tab.Rows b) : List (List Val))]), (16, .box 1 [.int .i64 0, .nilsl])]⟩ [(True), (((!(validTable a)) = false) → (((!(validTable a)) = false))), (((!(validTable a)) = false) → (True)), (((!(validTable a)) = false) → (((!(validTable a)) = false))), (((!(validTable a)) = false) → (((!(validTable a)) = false))), (((bif (!(validTable a)) then true else (!(validTable b))) = false) → (((bif (!(validTable a)) then true else (!(validTable b))) = false))), (((bif (!(validTable a)) then true else (!(validTable b))) = false) → (((bif (!(validTable a)) then true else (!(validTable b))) = false))), (((bif (!(validTable a)) then true else (!(validTable b))) = false) → (((bif (!(validTable a)) then true else (!(validTable b))) = false))), (((bif (!(validTable a)) then true else (!(validTable b))) = false) → (((bif (!(validTable a)) then true else (!(validTable b))) = false))), (((bif (!(validTable a)) then true else (!(validTable b))) = false) → (((bif (!(validTable a)) then true else (!(validTable b))) = false)))] ?_ ?_))
 ·
  refine ⟨?_, ?_, ?_, ?_, ?_, ?_, ?_, ?_, ?_, ?_, trivial⟩
  ·
   trivial
  ·
   intro g1
   have g1p0 : (validTable a) = true := (Go.Am.not_neg g1)
   assumption
  ·
   intro g2
   have g2p0 : (validTable a) = true := (Go.Am.not_neg g2)
   trivial
  ·
   intro g3
   have g3p0 : (validTable a) = true := (Go.Am.not_neg g3)
   assumption
  ·
   intro g4
   have g4p0 : (validTable a) = true := (Go.Am.not_neg g4)
   assumption
  ·
   intro g5
   have g5p0 : ((validTable a) = true) ∧ ((validTable b) = true) := (And.imp (fun h => (Go.Am.not_neg h)) (fun h => (Go.Am.not_neg h)) (Go.Am.or_neg g5))
   assumption
  ·
   intro g6
   have g6p0 : ((validTable a) = true) ∧ ((validTable b) = true) := (And.imp (fun h => (Go.Am.not_neg h)) (fun h => (Go.Am.not_neg h)) (Go.Am.or_neg g6))
   assumption
  ·
   intro g7
   have g7p0 : ((validTable a) = true) ∧ ((validTable b) = true) := (And.imp (fun h => (Go.Am.not_neg h)) (fun h => (Go.Am.not_neg h)) (Go.Am.or_neg g7))
   assumption
  ·
   intro g8
   have g8p0 : ((validTable a) = true) ∧ ((validTable b) = true) := (And.imp (fun h => (Go.Am.not_neg h)) (fun h => (Go.Am.not_neg h)) (Go.Am.or_neg g8))
   assumption
  ·
   intro g9
   have g9p0 : ((validTable a) = true) ∧ ((validTable b) = true) := (And.imp (fun h => (Go.Am.not_neg h)) (fun h => (Go.Am.not_neg h)) (Go.Am.or_neg g9))
   assumption
 refine AW.cd (bif (bif (!(validTable a)) then true else (!(validTable b))) then true else ((Tab.Width a) != (Tab.Width b))) ?_ ?_
 ·
  intro h10
  have h10q : (((validTable a) = false) ∨ ((validTable b) = false)) ∨ ((Tab.Width a) ≠ (Tab.Width b)) := (Or.imp (fun h => (Or.imp (fun h => (Go.Am.not_pos h)) (fun h => (Go.Am.not_pos h)) (Go.Am.or_pos h))) (fun h => (Go.Am.bne_pos h)) (Go.Am.or_pos h10))
  have e11 := e0.trans (Go.Am.bif_t h10)
  refine AW.seq (AW.r1 hC [4, 5] [16] ⟨[(4, .ref 16 1 0), (5, .bool false)], [(16, .box 1 [.int .i64 0, .nilsl])]⟩ ?_)
  exact AW.ret (AW.retE (β := Tab × Bool) (fun v => [⟨(.named 2), v.1⟩, ⟨.bool, v.2⟩]) (fun v => []) (v := ((Tab.mk 0 ([] : List (List Val))), false)) e11 (by kernel_rfl) rfl rfl)
 ·
  intro h12
  have h12q : (((validTable a) = true) ∧ ((validTable b) = true)) ∧ ((Tab.Width a) = (Tab.Width b)) := (And.imp (fun h => (And.imp (fun h => (Go.Am.not_neg h)) (fun h => (Go.Am.not_neg h)) (Go.Am.or_neg h))) (fun h => (Go.Am.bne_neg h)) (Go.Am.or_neg h12))
  have e13 := e0.trans (Go.Am.bif_f h12)
  refine AW.kp [2, 3, 4] [8, 12, 16] ⟨[(2, .ref 8 1 0), (3, .ref 12 1 0), (4, .ref 16 1 0)], [(8, .box 1 [.int .i64 (Tab.Width a), .data (.slice (.slice (.named 1))) ((Tab.Rows a) : List (List Val))]), (12, .box 1 [.int .i64 (Tab.Width b), .data (.slice (.slice (.named 1))) ((Tab.Rows b) : List (List Val))]), (16, .box 1 [.int .i64 0, .nilsl])]⟩ ?_
  refine AW.skip (AW.seq (AW.r0 hC [4, 5] [16] ⟨[(4, .ref 16 1 0), (5, .bool true)], [(16, .box 1 [.int .i64 (Tab.Width (unionAll a b)), .data (.slice (.slice (.named 1))) ((Tab.Rows (unionAll a b)) : List (List Val))])]⟩ [((List.length a.Rows ≤ 400 ∧ List.length b.Rows ≤ 400) ∧ RowsOK a.Rows ∧ RowsOK b.Rows)] ?_ ?_))
  ·
   refine ⟨?_, trivial⟩
   ·
    exact ⟨⟨(validTable_iff.1 h12q.1.1).n4, (validTable_iff.1 h12q.1.2).n4⟩, (validTable_iff.1 h12q.1.1).rowsOK, (validTable_iff.1 h12q.1.2).rowsOK⟩
  exact AW.ret (AW.retE (β := Tab × Bool) (fun v => [⟨(.named 2), v.1⟩, ⟨.bool, v.2⟩]) (fun v => []) (v := ((unionAll a b), true)) e13 (by kernel_rfl) rfl rfl)

end
end Go.Proofs.Ytjcjpeckfikfkaa
