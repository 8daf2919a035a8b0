/-
  A part of the proof of this claim (AyA): what functions of the program compute, and plain facts of that. No conditions.
-/
import Derived.Test.YtjcjpeckfikfkaaAw5
import Derived.Test.YtjcjpeckfikfkaaAw3
set_option linter.all false
namespace Go.Proofs.Ytjcjpeckfikfkaa
open Go Go.Am
noncomputable section

def rngHas (r : Rng) (v : Val) : Bool := (bif (bif (!(Val.Null v)) then (decide ((Rng.Low r) ≤ (Val.N v))) else false) then (decide ((Val.N v) ≤ (Rng.High r))) else false)

def rngHas_sp : FnSpec := mkSpec [.val (.named 0), .val (.named 1)] [.val .bool] (fun (r : Rng) (v : Val) => True) (fun (r : Rng) (v : Val) => [⟨.bool, (rngHas r v)⟩])

theorem rngHas_ok : FnOK Try.prog 90 rngHas_sp := by
 have hC : CtxOK Try.prog (mkCtx tyL []) := CtxOK.nil tyOK
 refine FnOK.of_body Try.func90 (by kernel_rfl) rfl (C := (mkCtx tyL [])) hC.ty (by kernel_rfl) ?_
 intro (r : Rng) (v : Val) hwf hpre E
 have hpre : True := hpre
 have hw_r : Wf ⟨(.named 0), (r : Rng)⟩ := hwf _ (List.Mem.head _)
 have hr_r_Low : -9223372036854775808 ≤ Rng.Low r ∧ Rng.Low r ≤ 9223372036854775807 := (hw_r.field (tv := ⟨(.int .i64), Rng.Low r⟩) (List.Mem.head _)).int_inv
 have hr_r_High : -9223372036854775808 ≤ Rng.High r ∧ Rng.High r ≤ 9223372036854775807 := (hw_r.field (tv := ⟨(.int .i64), Rng.High r⟩) (List.Mem.tail _ (List.Mem.head _))).int_inv
 have hw_v : Wf ⟨(.named 1), (v : Val)⟩ := hwf _ (List.Mem.tail _ (List.Mem.head _))
 have hr_v_N : -9223372036854775808 ≤ Val.N v ∧ Val.N v ≤ 9223372036854775807 := (hw_v.field (tv := ⟨(.int .i64), Val.N v⟩) (List.Mem.tail _ (List.Mem.head _))).int_inv
 have e0 : rngHas r v = rngHas r v := rfl
 refine AW.seq (AW.r1 hC [2, 3] [8, 12] ⟨[(2, .ref 8 1 0), (3, .ref 12 1 0)], [(8, .box 1 [.int .i64 (Rng.Low r), .int .i64 (Rng.High r)]), (12, .box 1 [.bool (Val.Null v), .int .i64 (Val.N v)])]⟩ ?_)
 refine AW.seq (AW.r0 hC [4] [] ⟨[(4, .bool (bif (bif (!(Val.Null v)) then (decide ((Rng.Low r) ≤ (Val.N v))) else false) then (decide ((Val.N v) ≤ (Rng.High r))) else false))], []⟩ [(((!(Val.Null v)) = true) → (((!(Val.Null v)) = true))), (((!(Val.Null v)) = true) → (((!(Val.Null v)) = true))), (((!(Val.Null v)) = true) → (((!(Val.Null v)) = true))), (((!(Val.Null v)) = true) → (((!(Val.Null v)) = true))), (((!(Val.Null v)) = true) → (((!(Val.Null v)) = true))), (((bif (!(Val.Null v)) then (decide ((Rng.Low r) ≤ (Val.N v))) else false) = true) → (((bif (!(Val.Null v)) then (decide ((Rng.Low r) ≤ (Val.N v))) else false) = true))), (((bif (!(Val.Null v)) then (decide ((Rng.Low r) ≤ (Val.N v))) else false) = true) → (((bif (!(Val.Null v)) then (decide ((Rng.Low r) ≤ (Val.N v))) else false) = true))), (((bif (!(Val.Null v)) then (decide ((Rng.Low r) ≤ (Val.N v))) else false) = true) → (((bif (!(Val.Null v)) then (decide ((Rng.Low r) ≤ (Val.N v))) else false) = true))), (((bif (!(Val.Null v)) then (decide ((Rng.Low r) ≤ (Val.N v))) else false) = true) → (((bif (!(Val.Null v)) then (decide ((Rng.Low r) ≤ (Val.N v))) else false) = true))), (((bif (!(Val.Null v)) then (decide ((Rng.Low r) ≤ (Val.N v))) else false) = true) → (((bif (!(Val.Null v)) then (decide ((Rng.Low r) ≤ (Val.N v))) else false) = true)))] ?_ ?_)
 ·
  refine ⟨?_, ?_, ?_, ?_, ?_, ?_, ?_, ?_, ?_, ?_, trivial⟩
  ·
   intro g1
   have g1p0 : (Val.Null v) = false := (Go.Am.not_pos g1)
   assumption
  ·
   intro g2
   have g2p0 : (Val.Null v) = false := (Go.Am.not_pos g2)
   assumption
  ·
   intro g3
   have g3p0 : (Val.Null v) = false := (Go.Am.not_pos g3)
   assumption
  ·
   intro g4
   have g4p0 : (Val.Null v) = false := (Go.Am.not_pos g4)
   assumption
  ·
   intro g5
   have g5p0 : (Val.Null v) = false := (Go.Am.not_pos g5)
   assumption
  ·
   intro g6
   have g6p0 : ((Val.Null v) = false) ∧ ((Rng.Low r) ≤ (Val.N v)) := (And.imp (fun h => (Go.Am.not_pos h)) (fun h => (of_decide_eq_true h)) (Go.Am.and_pos g6))
   assumption
  ·
   intro g7
   have g7p0 : ((Val.Null v) = false) ∧ ((Rng.Low r) ≤ (Val.N v)) := (And.imp (fun h => (Go.Am.not_pos h)) (fun h => (of_decide_eq_true h)) (Go.Am.and_pos g7))
   assumption
  ·
   intro g8
   have g8p0 : ((Val.Null v) = false) ∧ ((Rng.Low r) ≤ (Val.N v)) := (And.imp (fun h => (Go.Am.not_pos h)) (fun h => (of_decide_eq_true h)) (Go.Am.and_pos g8))
   assumption
  ·
   intro g9
   have g9p0 : ((Val.Null v) = false) ∧ ((Rng.Low r) ≤ (Val.N v)) := (And.imp (fun h => (Go.Am.not_pos h)) (fun h => (of_decide_eq_true h)) (Go.Am.and_pos g9))
   assumption
  ·
   intro g10
   have g10p0 : ((Val.Null v) = false) ∧ ((Rng.Low r) ≤ (Val.N v)) := (And.imp (fun h => (Go.Am.not_pos h)) (fun h => (of_decide_eq_true h)) (Go.Am.and_pos g10))
   assumption
 exact AW.ret (AW.retE (β := Bool) (fun v => [⟨.bool, v⟩]) (fun v => []) (v := (bif (bif (!(Val.Null v)) then (decide ((Rng.Low r) ≤ (Val.N v))) else false) then (decide ((Val.N v) ≤ (Rng.High r))) else false)) e0 (by kernel_rfl) rfl rfl)

def keepF (row : List Val) (r : Rng) (col : Int) : Bool := (rngHas r (List.getD row (Int.toNat col) Val.zero))

def keepF_sp : FnSpec := mkSpec [.val (.slice (.named 1)), .rd (.named 0), .rd (.int .i64)] [.val .bool] (fun (row : List Val) (r : Rng) (col : Int) => 0 ≤ col ∧ col < (List.length row : Int)) (fun (row : List Val) (r : Rng) (col : Int) => [⟨.bool, (keepF row r col)⟩])

theorem keepF_ok : FnOK Try.prog 89 keepF_sp := by
 have hC : CtxOK Try.prog (mkCtx tyL [(90, rngHas_sp)]) := CtxOK.cons rngHas_ok (CtxOK.nil tyOK)
 have hM : Try.prog.follows .mixedOrders = true := Try.checked.mixed
 refine FnOK.of_body Try.func89 (by kernel_rfl) rfl (C := (mkCtx tyL [(90, rngHas_sp)])) hC.ty (by kernel_rfl) ?_
 intro (row : List Val) (r : Rng) (col : Int) hwf hpre E
 have hpre : 0 ≤ col ∧ col < (List.length row : Int) := hpre
 have hw_row : Wf ⟨(.slice (.named 1)), (row : List Val)⟩ := hwf _ (List.Mem.head _)
 have hl_row : ((List.length row : Nat) : Int) ≤ 9223372036854775807 := hw_row.len
 have hw_r : Wf ⟨(.named 0), (r : Rng)⟩ := hwf _ (List.Mem.tail _ (List.Mem.head _))
 have hr_r_Low : -9223372036854775808 ≤ Rng.Low r ∧ Rng.Low r ≤ 9223372036854775807 := (hw_r.field (tv := ⟨(.int .i64), Rng.Low r⟩) (List.Mem.head _)).int_inv
 have hr_r_High : -9223372036854775808 ≤ Rng.High r ∧ Rng.High r ≤ 9223372036854775807 := (hw_r.field (tv := ⟨(.int .i64), Rng.High r⟩) (List.Mem.tail _ (List.Mem.head _))).int_inv
 have hw_col : Wf ⟨(.int .i64), (col : Int)⟩ := hwf _ (List.Mem.tail _ (List.Mem.tail _ (List.Mem.head _)))
 have hr_col : -9223372036854775808 ≤ col ∧ col ≤ 9223372036854775807 := hw_col.int_inv
 have e0 : keepF row r col = keepF row r col := rfl
 refine AW.seq (AW.r1 hC [0, 1, 2] [] ⟨[(0, .data (.slice (.named 1)) (row : List Val)), (1, .dref (.named 0) (r : Rng)), (2, .dref (.int .i64) (col : Int))], []⟩ ?_)
 refine AW.seq (AW.d0 hC hM [4] [] ⟨[(4, .bool (rngHas r (List.getD row (Int.toNat col) Val.zero)))], []⟩ [(0 ≤ col ∧ col < ((List.length row : Nat) : Int)), (True)] ?_ ?_)
 ·
  refine ⟨?_, ?_, trivial⟩
  ·
   omega
  ·
   trivial
 exact AW.ret (AW.retE (β := Bool) (fun v => [⟨.bool, v⟩]) (fun v => []) (v := (rngHas r (List.getD row (Int.toNat col) Val.zero))) e0 (by kernel_rfl) rfl rfl)

end
end Go.Proofs.Ytjcjpeckfikfkaa
