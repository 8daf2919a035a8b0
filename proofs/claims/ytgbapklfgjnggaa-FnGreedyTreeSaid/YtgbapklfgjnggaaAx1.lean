/-
  A part of the proof of this claim (Ax1): what functions of the program compute, and plain facts of that. No conditions.
-/
import Derived.Test.YtgbapklfgjnggaaAxT
set_option linter.all false
namespace Go.Proofs.Ytgbapklfgjnggaa
open Go Go.Am
noncomputable section

def inRange (n : Int) (low : Int) (high : Int) : Bool := (bif (decide (low ≤ n)) then (decide (n ≤ high)) else false)

def inRange_sp : FnSpec := mkSpec [.val (.int .i64), .val (.int .i64), .val (.int .i64)] [.val .bool] (fun (n : Int) (low : Int) (high : Int) => True) (fun (n : Int) (low : Int) (high : Int) => [⟨.bool, (inRange n low high)⟩])

theorem inRange_ok : FnOK Try.prog 56 inRange_sp := by
 have hC : CtxOK Try.prog (mkCtx tyL []) := CtxOK.nil tyOK
 refine FnOK.of_body Try.func56 (by kernel_rfl) rfl (C := (mkCtx tyL [])) hC.ty (by kernel_rfl) ?_
 intro (n : Int) (low : Int) (high : Int) hwf hpre E
 have hpre : True := hpre
 have hw_n : Wf ⟨(.int .i64), (n : Int)⟩ := hwf _ (List.Mem.head _)
 have hr_n : -9223372036854775808 ≤ n ∧ n ≤ 9223372036854775807 := hw_n.int_inv
 have hw_low : Wf ⟨(.int .i64), (low : Int)⟩ := hwf _ (List.Mem.tail _ (List.Mem.head _))
 have hr_low : -9223372036854775808 ≤ low ∧ low ≤ 9223372036854775807 := hw_low.int_inv
 have hw_high : Wf ⟨(.int .i64), (high : Int)⟩ := hwf _ (List.Mem.tail _ (List.Mem.tail _ (List.Mem.head _)))
 have hr_high : -9223372036854775808 ≤ high ∧ high ≤ 9223372036854775807 := hw_high.int_inv
 have e0 : inRange n low high = inRange n low high := rfl
 refine AW.seq (AW.r1U hC [0, 1, 2] [] [] [] ?_)
 refine AW.seq (AW.r0 hC [6] [] ⟨[(6, .bool (bif (decide (low ≤ n)) then (decide (n ≤ high)) else false))], []⟩ [(((decide (low ≤ n)) = true) → (((decide (low ≤ n)) = true))), (((decide (low ≤ n)) = true) → (((decide (low ≤ n)) = true))), (((decide (low ≤ n)) = true) → (((decide (low ≤ n)) = true)))] ?_ ?_)
 ·
  refine ⟨?_, ?_, ?_, trivial⟩
  ·
   intro g1
   have g1p0 : low ≤ n := (of_decide_eq_true g1)
   assumption
  ·
   intro g2
   have g2p0 : low ≤ n := (of_decide_eq_true g2)
   assumption
  ·
   intro g3
   have g3p0 : low ≤ n := (of_decide_eq_true g3)
   assumption
 exact AW.ret (AW.retE (β := Bool) (fun v => [⟨.bool, v⟩]) (fun v => []) (v := (bif (decide (low ≤ n)) then (decide (n ≤ high)) else false)) e0 (by kernel_rfl) rfl rfl)

theorem inRange_iff {n l h : Int} : inRange n l h = true ↔ l ≤ n ∧ n ≤ h := by
 unfold inRange
 by_cases e : l ≤ n <;> simp [e]

def has (mask : Int) (i : Int) : Bool := (((mask / 2 ^ (Int.toNat i)) % 2) == 1)

def has_sp : FnSpec := mkSpec [.val (.int .i64), .val (.int .i64)] [.val .bool] (fun (mask : Int) (i : Int) => 0 ≤ mask ∧ (0 ≤ i ∧ i ≤ 64)) (fun (mask : Int) (i : Int) => [⟨.bool, (has mask i)⟩])

theorem has_ok : FnOK Try.prog 82 has_sp := by
 have hC : CtxOK Try.prog (mkCtx tyL []) := CtxOK.nil tyOK
 refine FnOK.of_body Try.func82 (by kernel_rfl) rfl (C := (mkCtx tyL [])) hC.ty (by kernel_rfl) ?_
 intro (mask : Int) (i : Int) hwf hpre E
 have hpre : 0 ≤ mask ∧ (0 ≤ i ∧ i ≤ 64) := hpre
 have hw_mask : Wf ⟨(.int .i64), (mask : Int)⟩ := hwf _ (List.Mem.head _)
 have hr_mask : -9223372036854775808 ≤ mask ∧ mask ≤ 9223372036854775807 := hw_mask.int_inv
 have hw_i : Wf ⟨(.int .i64), (i : Int)⟩ := hwf _ (List.Mem.tail _ (List.Mem.head _))
 have hr_i : -9223372036854775808 ≤ i ∧ i ≤ 9223372036854775807 := hw_i.int_inv
 have e0 : has mask i = has mask i := rfl
 refine AW.seq (AW.r1U hC [0, 1] [] [] [] ?_)
 refine AW.seq (AW.r0 hC [4] [] ⟨[(4, .bool (((mask / 2 ^ (Int.toNat i)) % 2) == 1))], []⟩ [(0 ≤ i ∧ i ≤ 64), (0 ≤ (mask / 2 ^ (Int.toNat i)) ∧ 0 < (2 : Int))] ?_ ?_)
 ·
  refine ⟨?_, ?_, trivial⟩
  ·
   omega
  ·
   exact ⟨Int.ediv_nonneg hpre.1 (Int.pow_nonneg (by decide)), by decide⟩
 exact AW.ret (AW.retE (β := Bool) (fun v => [⟨.bool, v⟩]) (fun v => []) (v := (((mask / 2 ^ (Int.toNat i)) % 2) == 1)) e0 (by kernel_rfl) rfl rfl)

def validGraph_l0 (g : Graph) : Nat → Nat → Unit ⊕ Bool
 | 0, i => .inl ()
 | k + 1, i => (bif (decide (((i : Nat) : Int) < ((List.length (Graph.Rows g) : Nat) : Int))) then (bif (!(inRange (List.getD (Graph.Rows g) i 0) 1 1000)) then (.inr false) else (validGraph_l0 g k (i + 1))) else (.inl ()))

def validGraph_l1 (g : Graph) : Nat → Nat → Unit ⊕ Bool
 | 0, i => .inl ()
 | k + 1, i => (bif (decide (((i : Nat) : Int) < ((List.length (Graph.Edges g) : Nat) : Int))) then (bif (bif (bif (bif (decide ((Edge.A (List.getD (Graph.Edges g) i Edge.zero)) < 0)) then true else (decide ((Edge.B (List.getD (Graph.Edges g) i Edge.zero)) ≤ (Edge.A (List.getD (Graph.Edges g) i Edge.zero))))) then true else (decide (((List.length (Graph.Rows g) : Nat) : Int) ≤ (Edge.B (List.getD (Graph.Edges g) i Edge.zero))))) then true else (!(inRange (Edge.Den (List.getD (Graph.Edges g) i Edge.zero)) 1 1000))) then (.inr false) else (validGraph_l1 g k (i + 1))) else (.inl ()))

def validGraph (g : Graph) : Bool := (Sum.elim (fun _ => (Sum.elim (fun _ => (bif (inRange ((List.length (Graph.Rows g) : Nat) : Int) 1 5) then (decide (((List.length (Graph.Edges g) : Nat) : Int) ≤ 6)) else false)) (fun r => r) (validGraph_l1 g ((List.length (Graph.Edges g)) - 0 + 1) 0))) (fun r => r) (validGraph_l0 g ((List.length (Graph.Rows g)) - 0 + 1) 0))

def validGraph_sp : FnSpec := mkSpec [.val (.named 1)] [.val .bool] (fun (g : Graph) => True) (fun (g : Graph) => [⟨.bool, (validGraph g)⟩])

theorem validGraph_ok : FnOK Try.prog 55 validGraph_sp := by
 have hC : CtxOK Try.prog (mkCtx tyL [(56, inRange_sp)]) := CtxOK.cons inRange_ok (CtxOK.nil tyOK)
 refine FnOK.of_body Try.func55 (by kernel_rfl) rfl (C := (mkCtx tyL [(56, inRange_sp)])) hC.ty (by kernel_rfl) ?_
 intro (g : Graph) hwf hpre E
 have hpre : True := hpre
 have hw_g : Wf ⟨(.named 1), (g : Graph)⟩ := hwf _ (List.Mem.head _)
 have hl_g_Rows : ((List.length (Graph.Rows g) : Nat) : Int) ≤ 9223372036854775807 := (hw_g.field (tv := ⟨(.slice (.int .i64)), Graph.Rows g⟩) (List.Mem.head _)).len
 have hl_g_Edges : ((List.length (Graph.Edges g) : Nat) : Int) ≤ 9223372036854775807 := (hw_g.field (tv := ⟨(.slice (.named 0)), Graph.Edges g⟩) (List.Mem.tail _ (List.Mem.head _))).len
 have e0 : validGraph g = validGraph g := rfl
 refine AW.seq (AW.r1 hC [1] [4] ⟨[(1, .ref 4 1 0)], [(4, .box 1 [.data (.slice (.int .i64)) ((Graph.Rows g) : List Int), .data (.slice (.named 0)) ((Graph.Edges g) : List Edge)])]⟩ ?_)
 refine AW.seq (AW.seq (AW.r1U hC [1, 3] [4] [(3, .int .i64 0)] [] ?_))
 refine AW.cutQ (α := Unit) (fun x => ⟨[(1, .ref 4 1 0)], [(4, .box 1 [.data (.slice (.int .i64)) ((Graph.Rows g) : List Int), .data (.slice (.named 0)) ((Graph.Edges g) : List Edge)])]⟩) (fun x => (True) ∧ (validGraph_l0 g ((List.length (Graph.Rows g)) - 0 + 1) 0) = (.inl ())) ?_ ?_
 ·
  skip
  refine AW.block (AW.loop (α := Nat) (fun x => ⟨[(1, .ref 4 1 0), (3, .int .i64 ((x : Nat) : Int))], [(4, .box 1 [.data (.slice (.int .i64)) ((Graph.Rows g) : List Int), .data (.slice (.named 0)) ((Graph.Edges g) : List Edge)])]⟩) (fun x => (True) ∧ ∃ k, (List.length (Graph.Rows g)) - x < k ∧ (validGraph_l0 g ((List.length (Graph.Rows g)) - 0 + 1) 0) = validGraph_l0 g k x) (fun x => (List.length (Graph.Rows g)) - x) 0 (by kernel_rfl) ⟨?_, _, Nat.lt_succ_self _, rfl⟩ ?_)
  ·
   show True
   exact trivial
  ·
   intro i hR
   obtain ⟨hI0, k30, hk28, e29⟩ := hR
   replace hI0 : True := hI0
   replace hk28 : (List.length (Graph.Rows g)) - i < k30 := hk28
   obtain ⟨k30q, rfl⟩ : ∃ k, k30 = k + 1 := ⟨k30 - 1, by omega⟩
   refine AW.seq (AW.seq (AW.r1U hC [1, 3, 10] [4] [(10, .bool (decide (((i : Nat) : Int) < ((List.length (Graph.Rows g) : Nat) : Int))))] [] ?_))
   refine AW.cd (decide (((i : Nat) : Int) < ((List.length (Graph.Rows g) : Nat) : Int))) ?_ ?_
   ·
    intro h31
    have h31q : ((i : Nat) : Int) < ((List.length (Graph.Rows g) : Nat) : Int) := (of_decide_eq_true h31)
    have e32 := e29.trans (Go.Am.bif_t h31)
    refine AW.kpU [1, 3] [4] [] [] ?_
    refine AW.skip (AW.seq (AW.block (AW.seq (AW.r0U hC [1, 3, 19] [4] [(19, .bool (!(inRange (List.getD (Graph.Rows g) i 0) 1 1000)))] [] [(0 ≤ ((i : Nat) : Int) ∧ ((i : Nat) : Int) < ((List.length (Graph.Rows g) : Nat) : Int)), (True)] ?_ ?_))))
    ·
     refine ⟨?_, ?_, trivial⟩
     ·
      omega
     ·
      trivial
    refine AW.cd (!(inRange (List.getD (Graph.Rows g) i 0) 1 1000)) ?_ ?_
    ·
     intro h33
     have h33q : (inRange (List.getD (Graph.Rows g) i 0) 1 1000) = false := (Go.Am.not_pos h33)
     have e34 := e32.trans (Go.Am.bif_t h33)
     refine AW.seq (AW.r1 hC [2] [] ⟨[(2, .bool false)], []⟩ ?_)
     refine AW.ret ?_
     have e35 := e0.trans (Go.Am.elim_r e34)
     exact AW.retE (β := Bool) (fun v => [⟨.bool, v⟩]) (fun v => []) (v := false) e35 (by kernel_rfl) rfl rfl
    ·
     intro h36
     have h36q : (inRange (List.getD (Graph.Rows g) i 0) 1 1000) = true := (Go.Am.not_neg h36)
     have e37 := e32.trans (Go.Am.bif_f h36)
     refine AW.kpU [1, 3] [4] [] [] ?_
     refine AW.skip (AW.r0U hC [1, 3] [4] [(3, .int .i64 ((i + 1 : Nat) : Int))] [] [(-9223372036854775808 ≤ ((i + 1 : Nat) : Int) ∧ ((i + 1 : Nat) : Int) ≤ 9223372036854775807)] ?_ ?_)
     ·
      refine ⟨?_, trivial⟩
      ·
       omega
     refine AW.back (x := i) (i + 1) (by kernel_rfl) ⟨?_, k30q, ?_, e37⟩ ?_
     ·
      show True
      assumption
     ·
      show (List.length (Graph.Rows g)) - (i + 1) < k30q
      omega
     ·
      show (List.length (Graph.Rows g)) - (i + 1) < (List.length (Graph.Rows g)) - i
      omega
   ·
    intro h38
    have h38q : ¬ (((i : Nat) : Int) < ((List.length (Graph.Rows g) : Nat) : Int)) := (of_decide_eq_false h38)
    have e39 := e29.trans (Go.Am.bif_f h38)
    refine AW.kpU [1] [4] [] [] ?_
    refine AW.exit ?_
    refine AW.meet () (by kernel_rfl) ⟨?_, e39⟩
    show True
    assumption
 ·
  intro x hR
  obtain ⟨hJ0, e40⟩ := hR
  replace hJ0 : True := hJ0
  have e41 := e0.trans (Go.Am.elim_l e40)
  refine AW.seq (AW.seq (AW.r1U hC [1, 4] [4] [(4, .int .i64 0)] [] ?_))
  refine AW.cutQ (α := Unit) (fun x => ⟨[(1, .ref 4 1 0)], [(4, .box 1 [.data (.slice (.int .i64)) ((Graph.Rows g) : List Int), .data (.slice (.named 0)) ((Graph.Edges g) : List Edge)])]⟩) (fun x => (True) ∧ (validGraph_l1 g ((List.length (Graph.Edges g)) - 0 + 1) 0) = (.inl ())) ?_ ?_
  ·
   skip
   refine AW.block (AW.loop (α := Nat) (fun x => ⟨[(1, .ref 4 1 0), (4, .int .i64 ((x : Nat) : Int))], [(4, .box 1 [.data (.slice (.int .i64)) ((Graph.Rows g) : List Int), .data (.slice (.named 0)) ((Graph.Edges g) : List Edge)])]⟩) (fun x => (True) ∧ ∃ k, (List.length (Graph.Edges g)) - x < k ∧ (validGraph_l1 g ((List.length (Graph.Edges g)) - 0 + 1) 0) = validGraph_l1 g k x) (fun x => (List.length (Graph.Edges g)) - x) 0 (by kernel_rfl) ⟨?_, _, Nat.lt_succ_self _, rfl⟩ ?_)
   ·
    show True
    exact trivial
   ·
    intro i hR
    obtain ⟨hI1, k71, hk69, e70⟩ := hR
    replace hI1 : True := hI1
    replace hk69 : (List.length (Graph.Edges g)) - i < k71 := hk69
    obtain ⟨k71q, rfl⟩ : ∃ k, k71 = k + 1 := ⟨k71 - 1, by omega⟩
    refine AW.seq (AW.seq (AW.r1U hC [1, 4, 24] [4] [(24, .bool (decide (((i : Nat) : Int) < ((List.length (Graph.Edges g) : Nat) : Int))))] [] ?_))
    refine AW.cd (decide (((i : Nat) : Int) < ((List.length (Graph.Edges g) : Nat) : Int))) ?_ ?_
    ·
     intro h72
     have h72q : ((i : Nat) : Int) < ((List.length (Graph.Edges g) : Nat) : Int) := (of_decide_eq_true h72)
     have e73 := e70.trans (Go.Am.bif_t h72)
     refine AW.kpU [1, 4] [4] [] [] ?_
     refine AW.skip (AW.seq (AW.block (AW.seq (AW.r0U hC [1, 4, 5] [4, 20] [(5, .ref 20 1 0)] [(20, .box 1 [.int .i64 (Edge.A (List.getD (Graph.Edges g) i Edge.zero)), .int .i64 (Edge.B (List.getD (Graph.Edges g) i Edge.zero)), .int .i64 (Edge.Den (List.getD (Graph.Edges g) i Edge.zero))])] [(0 ≤ ((i : Nat) : Int) ∧ ((i : Nat) : Int) < ((List.length (Graph.Edges g) : Nat) : Int))] ?_ ?_))))
     ·
      refine ⟨?_, trivial⟩
      ·
       omega
     refine AW.seq (AW.r0U hC [1, 4, 55] [4] [(55, .bool (bif (bif (bif (decide ((Edge.A (List.getD (Graph.Edges g) i Edge.zero)) < 0)) then true else (decide ((Edge.B (List.getD (Graph.Edges g) i Edge.zero)) ≤ (Edge.A (List.getD (Graph.Edges g) i Edge.zero))))) then true else (decide (((List.length (Graph.Rows g) : Nat) : Int) ≤ (Edge.B (List.getD (Graph.Edges g) i Edge.zero))))) then true else (!(inRange (Edge.Den (List.getD (Graph.Edges g) i Edge.zero)) 1 1000))))] [] [(((decide ((Edge.A (List.getD (Graph.Edges g) i Edge.zero)) < 0)) = false) → (((decide ((Edge.A (List.getD (Graph.Edges g) i Edge.zero)) < 0)) = false))), (((decide ((Edge.A (List.getD (Graph.Edges g) i Edge.zero)) < 0)) = false) → (((decide ((Edge.A (List.getD (Graph.Edges g) i Edge.zero)) < 0)) = false))), (((decide ((Edge.A (List.getD (Graph.Edges g) i Edge.zero)) < 0)) = false) → (((decide ((Edge.A (List.getD (Graph.Edges g) i Edge.zero)) < 0)) = false))), (((decide ((Edge.A (List.getD (Graph.Edges g) i Edge.zero)) < 0)) = false) → (((decide ((Edge.A (List.getD (Graph.Edges g) i Edge.zero)) < 0)) = false))), (((decide ((Edge.A (List.getD (Graph.Edges g) i Edge.zero)) < 0)) = false) → (((decide ((Edge.A (List.getD (Graph.Edges g) i Edge.zero)) < 0)) = false))), (((bif (decide ((Edge.A (List.getD (Graph.Edges g) i Edge.zero)) < 0)) then true else (decide ((Edge.B (List.getD (Graph.Edges g) i Edge.zero)) ≤ (Edge.A (List.getD (Graph.Edges g) i Edge.zero))))) = false) → (((bif (decide ((Edge.A (List.getD (Graph.Edges g) i Edge.zero)) < 0)) then true else (decide ((Edge.B (List.getD (Graph.Edges g) i Edge.zero)) ≤ (Edge.A (List.getD (Graph.Edges g) i Edge.zero))))) = false))), (((bif (decide ((Edge.A (List.getD (Graph.Edges g) i Edge.zero)) < 0)) then true else (decide ((Edge.B (List.getD (Graph.Edges g) i Edge.zero)) ≤ (Edge.A (List.getD (Graph.Edges g) i Edge.zero))))) = false) → (((bif (decide ((Edge.A (List.getD (Graph.Edges g) i Edge.zero)) < 0)) then true else (decide ((Edge.B (List.getD (Graph.Edges g) i Edge.zero)) ≤ (Edge.A (List.getD (Graph.Edges g) i Edge.zero))))) = false))), (((bif (decide ((Edge.A (List.getD (Graph.Edges g) i Edge.zero)) < 0)) then true else (decide ((Edge.B (List.getD (Graph.Edges g) i Edge.zero)) ≤ (Edge.A (List.getD (Graph.Edges g) i Edge.zero))))) = false) → (((bif (decide ((Edge.A (List.getD (Graph.Edges g) i Edge.zero)) < 0)) then true else (decide ((Edge.B (List.getD (Graph.Edges g) i Edge.zero)) ≤ (Edge.A (List.getD (Graph.Edges g) i Edge.zero))))) = false))), (((bif (decide ((Edge.A (List.getD (Graph.Edges g) i Edge.zero)) < 0)) then true else (decide ((Edge.B (List.getD (Graph.Edges g) i Edge.zero)) ≤ (Edge.A (List.getD (Graph.Edges g) i Edge.zero))))) = false) → (((bif (decide ((Edge.A (List.getD (Graph.Edges g) i Edge.zero)) < 0)) then true else (decide ((Edge.B (List.getD (Graph.Edges g) i Edge.zero)) ≤ (Edge.A (List.getD (Graph.Edges g) i Edge.zero))))) = false))), (((bif (decide ((Edge.A (List.getD (Graph.Edges g) i Edge.zero)) < 0)) then true else (decide ((Edge.B (List.getD (Graph.Edges g) i Edge.zero)) ≤ (Edge.A (List.getD (Graph.Edges g) i Edge.zero))))) = false) → (((bif (decide ((Edge.A (List.getD (Graph.Edges g) i Edge.zero)) < 0)) then true else (decide ((Edge.B (List.getD (Graph.Edges g) i Edge.zero)) ≤ (Edge.A (List.getD (Graph.Edges g) i Edge.zero))))) = false))), (((bif (decide ((Edge.A (List.getD (Graph.Edges g) i Edge.zero)) < 0)) then true else (decide ((Edge.B (List.getD (Graph.Edges g) i Edge.zero)) ≤ (Edge.A (List.getD (Graph.Edges g) i Edge.zero))))) = false) → (((bif (decide ((Edge.A (List.getD (Graph.Edges g) i Edge.zero)) < 0)) then true else (decide ((Edge.B (List.getD (Graph.Edges g) i Edge.zero)) ≤ (Edge.A (List.getD (Graph.Edges g) i Edge.zero))))) = false))), (((bif (bif (decide ((Edge.A (List.getD (Graph.Edges g) i Edge.zero)) < 0)) then true else (decide ((Edge.B (List.getD (Graph.Edges g) i Edge.zero)) ≤ (Edge.A (List.getD (Graph.Edges g) i Edge.zero))))) then true else (decide (((List.length (Graph.Rows g) : Nat) : Int) ≤ (Edge.B (List.getD (Graph.Edges g) i Edge.zero))))) = false) → (((bif (bif (decide ((Edge.A (List.getD (Graph.Edges g) i Edge.zero)) < 0)) then true else (decide ((Edge.B (List.getD (Graph.Edges g) i Edge.zero)) ≤ (Edge.A (List.getD (Graph.Edges g) i Edge.zero))))) then true else (decide (((List.length (Graph.Rows g) : Nat) : Int) ≤ (Edge.B (List.getD (Graph.Edges g) i Edge.zero))))) = false))), (((bif (bif (decide ((Edge.A (List.getD (Graph.Edges g) i Edge.zero)) < 0)) then true else (decide ((Edge.B (List.getD (Graph.Edges g) i Edge.zero)) ≤ (Edge.A (List.getD (Graph.Edges g) i Edge.zero))))) then true else (decide (((List.length (Graph.Rows g) : Nat) : Int) ≤ (Edge.B (List.getD (Graph.Edges g) i Edge.zero))))) = false) → (((bif (bif (decide ((Edge.A (List.getD (Graph.Edges g) i Edge.zero)) < 0)) then true else (decide ((Edge.B (List.getD (Graph.Edges g) i Edge.zero)) ≤ (Edge.A (List.getD (Graph.Edges g) i Edge.zero))))) then true else (decide (((List.length (Graph.Rows g) : Nat) : Int) ≤ (Edge.B (List.getD (Graph.Edges g) i Edge.zero))))) = false))), (((bif (bif (decide ((Edge.A (List.getD (Graph.Edges g) i Edge.zero)) < 0)) then true else (decide ((Edge.B (List.getD (Graph.Edges g) i Edge.zero)) ≤ (Edge.A (List.getD (Graph.Edges g) i Edge.zero))))) then true else (decide (((List.length (Graph.Rows g) : Nat) : Int) ≤ (Edge.B (List.getD (Graph.Edges g) i Edge.zero))))) = false) → (True)), (((bif (bif (decide ((Edge.A (List.getD (Graph.Edges g) i Edge.zero)) < 0)) then true else (decide ((Edge.B (List.getD (Graph.Edges g) i Edge.zero)) ≤ (Edge.A (List.getD (Graph.Edges g) i Edge.zero))))) then true else (decide (((List.length (Graph.Rows g) : Nat) : Int) ≤ (Edge.B (List.getD (Graph.Edges g) i Edge.zero))))) = false) → (((bif (bif (decide ((Edge.A (List.getD (Graph.Edges g) i Edge.zero)) < 0)) then true else (decide ((Edge.B (List.getD (Graph.Edges g) i Edge.zero)) ≤ (Edge.A (List.getD (Graph.Edges g) i Edge.zero))))) then true else (decide (((List.length (Graph.Rows g) : Nat) : Int) ≤ (Edge.B (List.getD (Graph.Edges g) i Edge.zero))))) = false))), (((bif (bif (decide ((Edge.A (List.getD (Graph.Edges g) i Edge.zero)) < 0)) then true else (decide ((Edge.B (List.getD (Graph.Edges g) i Edge.zero)) ≤ (Edge.A (List.getD (Graph.Edges g) i Edge.zero))))) then true else (decide (((List.length (Graph.Rows g) : Nat) : Int) ≤ (Edge.B (List.getD (Graph.Edges g) i Edge.zero))))) = false) → (((bif (bif (decide ((Edge.A (List.getD (Graph.Edges g) i Edge.zero)) < 0)) then true else (decide ((Edge.B (List.getD (Graph.Edges g) i Edge.zero)) ≤ (Edge.A (List.getD (Graph.Edges g) i Edge.zero))))) then true else (decide (((List.length (Graph.Rows g) : Nat) : Int) ≤ (Edge.B (List.getD (Graph.Edges g) i Edge.zero))))) = false)))] ?_ ?_)
     ·
      refine ⟨?_, ?_, ?_, ?_, ?_, ?_, ?_, ?_, ?_, ?_, ?_, ?_, ?_, ?_, ?_, ?_, trivial⟩
      ·
       intro g74
       have g74p0 : ¬ ((Edge.A (List.getD (Graph.Edges g) i Edge.zero)) < 0) := (of_decide_eq_false g74)
       assumption
      ·
       intro g75
       have g75p0 : ¬ ((Edge.A (List.getD (Graph.Edges g) i Edge.zero)) < 0) := (of_decide_eq_false g75)
       assumption
      ·
       intro g76
       have g76p0 : ¬ ((Edge.A (List.getD (Graph.Edges g) i Edge.zero)) < 0) := (of_decide_eq_false g76)
       assumption
      ·
       intro g77
       have g77p0 : ¬ ((Edge.A (List.getD (Graph.Edges g) i Edge.zero)) < 0) := (of_decide_eq_false g77)
       assumption
      ·
       intro g78
       have g78p0 : ¬ ((Edge.A (List.getD (Graph.Edges g) i Edge.zero)) < 0) := (of_decide_eq_false g78)
       assumption
      ·
       intro g79
       have g79p0 : (¬ ((Edge.A (List.getD (Graph.Edges g) i Edge.zero)) < 0)) ∧ (¬ ((Edge.B (List.getD (Graph.Edges g) i Edge.zero)) ≤ (Edge.A (List.getD (Graph.Edges g) i Edge.zero)))) := (And.imp (fun h => (of_decide_eq_false h)) (fun h => (of_decide_eq_false h)) (Go.Am.or_neg g79))
       assumption
      ·
       intro g80
       have g80p0 : (¬ ((Edge.A (List.getD (Graph.Edges g) i Edge.zero)) < 0)) ∧ (¬ ((Edge.B (List.getD (Graph.Edges g) i Edge.zero)) ≤ (Edge.A (List.getD (Graph.Edges g) i Edge.zero)))) := (And.imp (fun h => (of_decide_eq_false h)) (fun h => (of_decide_eq_false h)) (Go.Am.or_neg g80))
       assumption
      ·
       intro g81
       have g81p0 : (¬ ((Edge.A (List.getD (Graph.Edges g) i Edge.zero)) < 0)) ∧ (¬ ((Edge.B (List.getD (Graph.Edges g) i Edge.zero)) ≤ (Edge.A (List.getD (Graph.Edges g) i Edge.zero)))) := (And.imp (fun h => (of_decide_eq_false h)) (fun h => (of_decide_eq_false h)) (Go.Am.or_neg g81))
       assumption
      ·
       intro g82
       have g82p0 : (¬ ((Edge.A (List.getD (Graph.Edges g) i Edge.zero)) < 0)) ∧ (¬ ((Edge.B (List.getD (Graph.Edges g) i Edge.zero)) ≤ (Edge.A (List.getD (Graph.Edges g) i Edge.zero)))) := (And.imp (fun h => (of_decide_eq_false h)) (fun h => (of_decide_eq_false h)) (Go.Am.or_neg g82))
       assumption
      ·
       intro g83
       have g83p0 : (¬ ((Edge.A (List.getD (Graph.Edges g) i Edge.zero)) < 0)) ∧ (¬ ((Edge.B (List.getD (Graph.Edges g) i Edge.zero)) ≤ (Edge.A (List.getD (Graph.Edges g) i Edge.zero)))) := (And.imp (fun h => (of_decide_eq_false h)) (fun h => (of_decide_eq_false h)) (Go.Am.or_neg g83))
       assumption
      ·
       intro g84
       have g84p0 : (¬ ((Edge.A (List.getD (Graph.Edges g) i Edge.zero)) < 0)) ∧ (¬ ((Edge.B (List.getD (Graph.Edges g) i Edge.zero)) ≤ (Edge.A (List.getD (Graph.Edges g) i Edge.zero)))) := (And.imp (fun h => (of_decide_eq_false h)) (fun h => (of_decide_eq_false h)) (Go.Am.or_neg g84))
       assumption
      ·
       intro g85
       have g85p0 : ((¬ ((Edge.A (List.getD (Graph.Edges g) i Edge.zero)) < 0)) ∧ (¬ ((Edge.B (List.getD (Graph.Edges g) i Edge.zero)) ≤ (Edge.A (List.getD (Graph.Edges g) i Edge.zero))))) ∧ (¬ (((List.length (Graph.Rows g) : Nat) : Int) ≤ (Edge.B (List.getD (Graph.Edges g) i Edge.zero)))) := (And.imp (fun h => (And.imp (fun h => (of_decide_eq_false h)) (fun h => (of_decide_eq_false h)) (Go.Am.or_neg h))) (fun h => (of_decide_eq_false h)) (Go.Am.or_neg g85))
       assumption
      ·
       intro g86
       have g86p0 : ((¬ ((Edge.A (List.getD (Graph.Edges g) i Edge.zero)) < 0)) ∧ (¬ ((Edge.B (List.getD (Graph.Edges g) i Edge.zero)) ≤ (Edge.A (List.getD (Graph.Edges g) i Edge.zero))))) ∧ (¬ (((List.length (Graph.Rows g) : Nat) : Int) ≤ (Edge.B (List.getD (Graph.Edges g) i Edge.zero)))) := (And.imp (fun h => (And.imp (fun h => (of_decide_eq_false h)) (fun h => (of_decide_eq_false h)) (Go.Am.or_neg h))) (fun h => (of_decide_eq_false h)) (Go.Am.or_neg g86))
       assumption
      ·
       intro g87
       have g87p0 : ((¬ ((Edge.A (List.getD (Graph.Edges g) i Edge.zero)) < 0)) ∧ (¬ ((Edge.B (List.getD (Graph.Edges g) i Edge.zero)) ≤ (Edge.A (List.getD (Graph.Edges g) i Edge.zero))))) ∧ (¬ (((List.length (Graph.Rows g) : Nat) : Int) ≤ (Edge.B (List.getD (Graph.Edges g) i Edge.zero)))) := (And.imp (fun h => (And.imp (fun h => (of_decide_eq_false h)) (fun h => (of_decide_eq_false h)) (Go.Am.or_neg h))) (fun h => (of_decide_eq_false h)) (Go.Am.or_neg g87))
       trivial
      ·
       intro g88
       have g88p0 : ((¬ ((Edge.A (List.getD (Graph.Edges g) i Edge.zero)) < 0)) ∧ (¬ ((Edge.B (List.getD (Graph.Edges g) i Edge.zero)) ≤ (Edge.A (List.getD (Graph.Edges g) i Edge.zero))))) ∧ (¬ (((List.length (Graph.Rows g) : Nat) : Int) ≤ (Edge.B (List.getD (Graph.Edges g) i Edge.zero)))) := (And.imp (fun h => (And.imp (fun h => (of_decide_eq_false h)) (fun h => (of_decide_eq_false h)) (Go.Am.or_neg h))) (fun h => (of_decide_eq_false h)) (Go.Am.or_neg g88))
       assumption
      ·
       intro g89
       have g89p0 : ((¬ ((Edge.A (List.getD (Graph.Edges g) i Edge.zero)) < 0)) ∧ (¬ ((Edge.B (List.getD (Graph.Edges g) i Edge.zero)) ≤ (Edge.A (List.getD (Graph.Edges g) i Edge.zero))))) ∧ (¬ (((List.length (Graph.Rows g) : Nat) : Int) ≤ (Edge.B (List.getD (Graph.Edges g) i Edge.zero)))) := (And.imp (fun h => (And.imp (fun h => (of_decide_eq_false h)) (fun h => (of_decide_eq_false h)) (Go.Am.or_neg h))) (fun h => (of_decide_eq_false h)) (Go.Am.or_neg g89))
       assumption
     refine AW.cd (bif (bif (bif (decide ((Edge.A (List.getD (Graph.Edges g) i Edge.zero)) < 0)) then true else (decide ((Edge.B (List.getD (Graph.Edges g) i Edge.zero)) ≤ (Edge.A (List.getD (Graph.Edges g) i Edge.zero))))) then true else (decide (((List.length (Graph.Rows g) : Nat) : Int) ≤ (Edge.B (List.getD (Graph.Edges g) i Edge.zero))))) then true else (!(inRange (Edge.Den (List.getD (Graph.Edges g) i Edge.zero)) 1 1000))) ?_ ?_
     ·
      intro h90
      have h90q : ((((Edge.A (List.getD (Graph.Edges g) i Edge.zero)) < 0) ∨ ((Edge.B (List.getD (Graph.Edges g) i Edge.zero)) ≤ (Edge.A (List.getD (Graph.Edges g) i Edge.zero)))) ∨ (((List.length (Graph.Rows g) : Nat) : Int) ≤ (Edge.B (List.getD (Graph.Edges g) i Edge.zero)))) ∨ ((inRange (Edge.Den (List.getD (Graph.Edges g) i Edge.zero)) 1 1000) = false) := (Or.imp (fun h => (Or.imp (fun h => (Or.imp (fun h => (of_decide_eq_true h)) (fun h => (of_decide_eq_true h)) (Go.Am.or_pos h))) (fun h => (of_decide_eq_true h)) (Go.Am.or_pos h))) (fun h => (Go.Am.not_pos h)) (Go.Am.or_pos h90))
      have e91 := e73.trans (Go.Am.bif_t h90)
      refine AW.seq (AW.r1 hC [2] [] ⟨[(2, .bool false)], []⟩ ?_)
      refine AW.ret ?_
      have e92 := e41.trans (Go.Am.elim_r e91)
      exact AW.retE (β := Bool) (fun v => [⟨.bool, v⟩]) (fun v => []) (v := false) e92 (by kernel_rfl) rfl rfl
     ·
      intro h93
      have h93q : (((¬ ((Edge.A (List.getD (Graph.Edges g) i Edge.zero)) < 0)) ∧ (¬ ((Edge.B (List.getD (Graph.Edges g) i Edge.zero)) ≤ (Edge.A (List.getD (Graph.Edges g) i Edge.zero))))) ∧ (¬ (((List.length (Graph.Rows g) : Nat) : Int) ≤ (Edge.B (List.getD (Graph.Edges g) i Edge.zero))))) ∧ ((inRange (Edge.Den (List.getD (Graph.Edges g) i Edge.zero)) 1 1000) = true) := (And.imp (fun h => (And.imp (fun h => (And.imp (fun h => (of_decide_eq_false h)) (fun h => (of_decide_eq_false h)) (Go.Am.or_neg h))) (fun h => (of_decide_eq_false h)) (Go.Am.or_neg h))) (fun h => (Go.Am.not_neg h)) (Go.Am.or_neg h93))
      have e94 := e73.trans (Go.Am.bif_f h93)
      refine AW.kpU [1, 4] [4] [] [] ?_
      refine AW.skip (AW.r0U hC [1, 4] [4] [(4, .int .i64 ((i + 1 : Nat) : Int))] [] [(-9223372036854775808 ≤ ((i + 1 : Nat) : Int) ∧ ((i + 1 : Nat) : Int) ≤ 9223372036854775807)] ?_ ?_)
      ·
       refine ⟨?_, trivial⟩
       ·
        omega
      refine AW.back (x := i) (i + 1) (by kernel_rfl) ⟨?_, k71q, ?_, e94⟩ ?_
      ·
       show True
       assumption
      ·
       show (List.length (Graph.Edges g)) - (i + 1) < k71q
       omega
      ·
       show (List.length (Graph.Edges g)) - (i + 1) < (List.length (Graph.Edges g)) - i
       omega
    ·
     intro h95
     have h95q : ¬ (((i : Nat) : Int) < ((List.length (Graph.Edges g) : Nat) : Int)) := (of_decide_eq_false h95)
     have e96 := e70.trans (Go.Am.bif_f h95)
     refine AW.kpU [1] [4] [] [] ?_
     refine AW.exit ?_
     refine AW.meet () (by kernel_rfl) ⟨?_, e96⟩
     show True
     assumption
  ·
   intro x hR
   obtain ⟨hJ1, e97⟩ := hR
   replace hJ1 : True := hJ1
   have e98 := e41.trans (Go.Am.elim_l e97)
   refine AW.seq (AW.r0 hC [2] [] ⟨[(2, .bool (bif (inRange ((List.length (Graph.Rows g) : Nat) : Int) 1 5) then (decide (((List.length (Graph.Edges g) : Nat) : Int) ≤ 6)) else false))], []⟩ [(True), (((inRange ((List.length (Graph.Rows g) : Nat) : Int) 1 5) = true) → (((inRange ((List.length (Graph.Rows g) : Nat) : Int) 1 5) = true))), (((inRange ((List.length (Graph.Rows g) : Nat) : Int) 1 5) = true) → (((inRange ((List.length (Graph.Rows g) : Nat) : Int) 1 5) = true))), (((inRange ((List.length (Graph.Rows g) : Nat) : Int) 1 5) = true) → (((inRange ((List.length (Graph.Rows g) : Nat) : Int) 1 5) = true))), (((inRange ((List.length (Graph.Rows g) : Nat) : Int) 1 5) = true) → (((inRange ((List.length (Graph.Rows g) : Nat) : Int) 1 5) = true)))] ?_ ?_)
   ·
    refine ⟨?_, ?_, ?_, ?_, ?_, trivial⟩
    ·
     trivial
    ·
     intro g99
     have g99p0 : (inRange ((List.length (Graph.Rows g) : Nat) : Int) 1 5) = true := g99
     assumption
    ·
     intro g100
     have g100p0 : (inRange ((List.length (Graph.Rows g) : Nat) : Int) 1 5) = true := g100
     assumption
    ·
     intro g101
     have g101p0 : (inRange ((List.length (Graph.Rows g) : Nat) : Int) 1 5) = true := g101
     assumption
    ·
     intro g102
     have g102p0 : (inRange ((List.length (Graph.Rows g) : Nat) : Int) 1 5) = true := g102
     assumption
   exact AW.ret (AW.retE (β := Bool) (fun v => [⟨.bool, v⟩]) (fun v => []) (v := (bif (inRange ((List.length (Graph.Rows g) : Nat) : Int) 1 5) then (decide (((List.length (Graph.Edges g) : Nat) : Int) ≤ 6)) else false)) e98 (by kernel_rfl) rfl rfl)

def ValidGraph_l0 (g : Graph) : Nat → Nat → Unit ⊕ Bool
 | 0, v26 => .inl ()
 | k + 1, v26 => (bif (decide (((v26 : Nat) : Int) < ((List.length (Graph.Rows g) : Nat) : Int))) then (bif (bif (decide ((List.getD (Graph.Rows g) v26 0) < 1)) then true else (decide (1000 < (List.getD (Graph.Rows g) v26 0)))) then (.inr false) else (ValidGraph_l0 g k (v26 + 1))) else (.inl ()))

def ValidGraph_l1 (g : Graph) : Nat → Nat → Unit ⊕ Bool
 | 0, v40 => .inl ()
 | k + 1, v40 => (bif (decide (((v40 : Nat) : Int) < ((List.length (Graph.Edges g) : Nat) : Int))) then (bif (bif (bif (bif (bif (decide ((Edge.A (List.getD (Graph.Edges g) v40 Edge.zero)) < 0)) then true else (decide ((Edge.B (List.getD (Graph.Edges g) v40 Edge.zero)) ≤ (Edge.A (List.getD (Graph.Edges g) v40 Edge.zero))))) then true else (decide (((List.length (Graph.Rows g) : Nat) : Int) ≤ (Edge.B (List.getD (Graph.Edges g) v40 Edge.zero))))) then true else (decide ((Edge.Den (List.getD (Graph.Edges g) v40 Edge.zero)) < 1))) then true else (decide (1000 < (Edge.Den (List.getD (Graph.Edges g) v40 Edge.zero))))) then (.inr false) else (ValidGraph_l1 g k (v40 + 1))) else (.inl ()))

def ValidGraph (g : Graph) : Bool := (bif (bif (bif (decide (((List.length (Graph.Rows g) : Nat) : Int) < 1)) then true else (decide (5 < ((List.length (Graph.Rows g) : Nat) : Int)))) then true else (decide (6 < ((List.length (Graph.Edges g) : Nat) : Int)))) then false else (Sum.elim (fun _ => (Sum.elim (fun _ => true) (fun r => r) (ValidGraph_l1 g ((List.length (Graph.Edges g)) - 0 + 1) 0))) (fun r => r) (ValidGraph_l0 g ((List.length (Graph.Rows g)) - 0 + 1) 0)))

def ValidGraph_sp : FnSpec := mkSpec [.val (.named 1)] [.val .bool] (fun (g : Graph) => True) (fun (g : Graph) => [⟨.bool, (ValidGraph g)⟩])

theorem ValidGraph_ok : FnOK Try.prog 52 ValidGraph_sp := by
 have hC : CtxOK Try.prog (mkCtx tyL []) := CtxOK.nil tyOK
 refine FnOK.of_body Try.func52 (by kernel_rfl) rfl (C := (mkCtx tyL [])) hC.ty (by kernel_rfl) ?_
 intro (g : Graph) hwf hpre E
 have hpre : True := hpre
 have hw_g : Wf ⟨(.named 1), (g : Graph)⟩ := hwf _ (List.Mem.head _)
 have hl_g_Rows : ((List.length (Graph.Rows g) : Nat) : Int) ≤ 9223372036854775807 := (hw_g.field (tv := ⟨(.slice (.int .i64)), Graph.Rows g⟩) (List.Mem.head _)).len
 have hl_g_Edges : ((List.length (Graph.Edges g) : Nat) : Int) ≤ 9223372036854775807 := (hw_g.field (tv := ⟨(.slice (.named 0)), Graph.Edges g⟩) (List.Mem.tail _ (List.Mem.head _))).len
 have e0 : ValidGraph g = ValidGraph g := rfl
 refine AW.seq (AW.r1 hC [1] [4] ⟨[(1, .ref 4 1 0)], [(4, .box 1 [.data (.slice (.int .i64)) ((Graph.Rows g) : List Int), .data (.slice (.named 0)) ((Graph.Edges g) : List Edge)])]⟩ ?_)
 refine AW.seq (AW.seq (AW.r0U hC [1, 22] [4] [(22, .bool (bif (bif (decide (((List.length (Graph.Rows g) : Nat) : Int) < 1)) then true else (decide (5 < ((List.length (Graph.Rows g) : Nat) : Int)))) then true else (decide (6 < ((List.length (Graph.Edges g) : Nat) : Int)))))] [] [(((decide (((List.length (Graph.Rows g) : Nat) : Int) < 1)) = false) → (((decide (((List.length (Graph.Rows g) : Nat) : Int) < 1)) = false))), (((decide (((List.length (Graph.Rows g) : Nat) : Int) < 1)) = false) → (((decide (((List.length (Graph.Rows g) : Nat) : Int) < 1)) = false))), (((decide (((List.length (Graph.Rows g) : Nat) : Int) < 1)) = false) → (((decide (((List.length (Graph.Rows g) : Nat) : Int) < 1)) = false))), (((decide (((List.length (Graph.Rows g) : Nat) : Int) < 1)) = false) → (((decide (((List.length (Graph.Rows g) : Nat) : Int) < 1)) = false))), (((bif (decide (((List.length (Graph.Rows g) : Nat) : Int) < 1)) then true else (decide (5 < ((List.length (Graph.Rows g) : Nat) : Int)))) = false) → (((bif (decide (((List.length (Graph.Rows g) : Nat) : Int) < 1)) then true else (decide (5 < ((List.length (Graph.Rows g) : Nat) : Int)))) = false))), (((bif (decide (((List.length (Graph.Rows g) : Nat) : Int) < 1)) then true else (decide (5 < ((List.length (Graph.Rows g) : Nat) : Int)))) = false) → (((bif (decide (((List.length (Graph.Rows g) : Nat) : Int) < 1)) then true else (decide (5 < ((List.length (Graph.Rows g) : Nat) : Int)))) = false))), (((bif (decide (((List.length (Graph.Rows g) : Nat) : Int) < 1)) then true else (decide (5 < ((List.length (Graph.Rows g) : Nat) : Int)))) = false) → (((bif (decide (((List.length (Graph.Rows g) : Nat) : Int) < 1)) then true else (decide (5 < ((List.length (Graph.Rows g) : Nat) : Int)))) = false))), (((bif (decide (((List.length (Graph.Rows g) : Nat) : Int) < 1)) then true else (decide (5 < ((List.length (Graph.Rows g) : Nat) : Int)))) = false) → (((bif (decide (((List.length (Graph.Rows g) : Nat) : Int) < 1)) then true else (decide (5 < ((List.length (Graph.Rows g) : Nat) : Int)))) = false)))] ?_ ?_))
 ·
  refine ⟨?_, ?_, ?_, ?_, ?_, ?_, ?_, ?_, trivial⟩
  ·
   intro g1
   have g1p0 : ¬ (((List.length (Graph.Rows g) : Nat) : Int) < 1) := (of_decide_eq_false g1)
   assumption
  ·
   intro g2
   have g2p0 : ¬ (((List.length (Graph.Rows g) : Nat) : Int) < 1) := (of_decide_eq_false g2)
   assumption
  ·
   intro g3
   have g3p0 : ¬ (((List.length (Graph.Rows g) : Nat) : Int) < 1) := (of_decide_eq_false g3)
   assumption
  ·
   intro g4
   have g4p0 : ¬ (((List.length (Graph.Rows g) : Nat) : Int) < 1) := (of_decide_eq_false g4)
   assumption
  ·
   intro g5
   have g5p0 : (¬ (((List.length (Graph.Rows g) : Nat) : Int) < 1)) ∧ (¬ (5 < ((List.length (Graph.Rows g) : Nat) : Int))) := (And.imp (fun h => (of_decide_eq_false h)) (fun h => (of_decide_eq_false h)) (Go.Am.or_neg g5))
   assumption
  ·
   intro g6
   have g6p0 : (¬ (((List.length (Graph.Rows g) : Nat) : Int) < 1)) ∧ (¬ (5 < ((List.length (Graph.Rows g) : Nat) : Int))) := (And.imp (fun h => (of_decide_eq_false h)) (fun h => (of_decide_eq_false h)) (Go.Am.or_neg g6))
   assumption
  ·
   intro g7
   have g7p0 : (¬ (((List.length (Graph.Rows g) : Nat) : Int) < 1)) ∧ (¬ (5 < ((List.length (Graph.Rows g) : Nat) : Int))) := (And.imp (fun h => (of_decide_eq_false h)) (fun h => (of_decide_eq_false h)) (Go.Am.or_neg g7))
   assumption
  ·
   intro g8
   have g8p0 : (¬ (((List.length (Graph.Rows g) : Nat) : Int) < 1)) ∧ (¬ (5 < ((List.length (Graph.Rows g) : Nat) : Int))) := (And.imp (fun h => (of_decide_eq_false h)) (fun h => (of_decide_eq_false h)) (Go.Am.or_neg g8))
   assumption
 refine AW.cd (bif (bif (decide (((List.length (Graph.Rows g) : Nat) : Int) < 1)) then true else (decide (5 < ((List.length (Graph.Rows g) : Nat) : Int)))) then true else (decide (6 < ((List.length (Graph.Edges g) : Nat) : Int)))) ?_ ?_
 ·
  intro h9
  have h9q : ((((List.length (Graph.Rows g) : Nat) : Int) < 1) ∨ (5 < ((List.length (Graph.Rows g) : Nat) : Int))) ∨ (6 < ((List.length (Graph.Edges g) : Nat) : Int)) := (Or.imp (fun h => (Or.imp (fun h => (of_decide_eq_true h)) (fun h => (of_decide_eq_true h)) (Go.Am.or_pos h))) (fun h => (of_decide_eq_true h)) (Go.Am.or_pos h9))
  have e10 := e0.trans (Go.Am.bif_t h9)
  refine AW.seq (AW.r1 hC [2] [] ⟨[(2, .bool false)], []⟩ ?_)
  exact AW.ret (AW.retE (β := Bool) (fun v => [⟨.bool, v⟩]) (fun v => []) (v := false) e10 (by kernel_rfl) rfl rfl)
 ·
  intro h11
  have h11q : ((¬ (((List.length (Graph.Rows g) : Nat) : Int) < 1)) ∧ (¬ (5 < ((List.length (Graph.Rows g) : Nat) : Int)))) ∧ (¬ (6 < ((List.length (Graph.Edges g) : Nat) : Int))) := (And.imp (fun h => (And.imp (fun h => (of_decide_eq_false h)) (fun h => (of_decide_eq_false h)) (Go.Am.or_neg h))) (fun h => (of_decide_eq_false h)) (Go.Am.or_neg h11))
  have e12 := e0.trans (Go.Am.bif_f h11)
  refine AW.kpU [1] [4] [] [] ?_
  refine AW.skip (AW.seq (AW.seq (AW.r1U hC [1, 24, 25, 26] [4] [(24, .data (.slice (.int .i64)) ((Graph.Rows g) : List Int)), (25, .int .i64 ((List.length (Graph.Rows g) : Nat) : Int)), (26, .int .i64 0)] [] ?_)))
  refine AW.cutQ (α := Unit) (fun x => ⟨[(1, .ref 4 1 0)], [(4, .box 1 [.data (.slice (.int .i64)) ((Graph.Rows g) : List Int), .data (.slice (.named 0)) ((Graph.Edges g) : List Edge)])]⟩) (fun x => (True) ∧ (ValidGraph_l0 g ((List.length (Graph.Rows g)) - 0 + 1) 0) = (.inl ())) ?_ ?_
  ·
   skip
   refine AW.block (AW.loop (α := Nat) (fun x => ⟨[(1, .ref 4 1 0), (24, .data (.slice (.int .i64)) ((Graph.Rows g) : List Int)), (25, .int .i64 ((List.length (Graph.Rows g) : Nat) : Int)), (26, .int .i64 ((x : Nat) : Int))], [(4, .box 1 [.data (.slice (.int .i64)) ((Graph.Rows g) : List Int), .data (.slice (.named 0)) ((Graph.Edges g) : List Edge)])]⟩) (fun x => (True) ∧ ∃ k, (List.length (Graph.Rows g)) - x < k ∧ (ValidGraph_l0 g ((List.length (Graph.Rows g)) - 0 + 1) 0) = ValidGraph_l0 g k x) (fun x => (List.length (Graph.Rows g)) - x) 0 (by kernel_rfl) ⟨?_, _, Nat.lt_succ_self _, rfl⟩ ?_)
   ·
    show True
    exact trivial
   ·
    intro v26 hR
    obtain ⟨hI0, k42, hk40, e41⟩ := hR
    replace hI0 : True := hI0
    replace hk40 : (List.length (Graph.Rows g)) - v26 < k42 := hk40
    obtain ⟨k42q, rfl⟩ : ∃ k, k42 = k + 1 := ⟨k42 - 1, by omega⟩
    refine AW.seq (AW.r1U hC [1, 24, 25, 26, 27] [4] [(27, .bool (decide (((v26 : Nat) : Int) < ((List.length (Graph.Rows g) : Nat) : Int))))] [] ?_)
    refine AW.seq (AW.cd (decide (((v26 : Nat) : Int) < ((List.length (Graph.Rows g) : Nat) : Int))) ?_ ?_)
    ·
     intro h43
     have h43q : ((v26 : Nat) : Int) < ((List.length (Graph.Rows g) : Nat) : Int) := (of_decide_eq_true h43)
     have e44 := e41.trans (Go.Am.bif_t h43)
     refine AW.kpU [1, 24, 25, 26] [4] [] [] ?_
     refine AW.skip (AW.seq (AW.block (AW.seq (AW.r0U hC [1, 4, 24, 25, 26] [4] [(4, .int .i64 (List.getD (Graph.Rows g) v26 0))] [] [(0 ≤ ((v26 : Nat) : Int) ∧ ((v26 : Nat) : Int) < ((List.length (Graph.Rows g) : Nat) : Int))] ?_ ?_))))
     ·
      refine ⟨?_, trivial⟩
      ·
       omega
     refine AW.seq (AW.r0U hC [1, 24, 25, 26, 35] [4] [(35, .bool (bif (decide ((List.getD (Graph.Rows g) v26 0) < 1)) then true else (decide (1000 < (List.getD (Graph.Rows g) v26 0)))))] [] [(((decide ((List.getD (Graph.Rows g) v26 0) < 1)) = false) → (((decide ((List.getD (Graph.Rows g) v26 0) < 1)) = false))), (((decide ((List.getD (Graph.Rows g) v26 0) < 1)) = false) → (((decide ((List.getD (Graph.Rows g) v26 0) < 1)) = false)))] ?_ ?_)
     ·
      refine ⟨?_, ?_, trivial⟩
      ·
       intro g45
       have g45p0 : ¬ ((List.getD (Graph.Rows g) v26 0) < 1) := (of_decide_eq_false g45)
       assumption
      ·
       intro g46
       have g46p0 : ¬ ((List.getD (Graph.Rows g) v26 0) < 1) := (of_decide_eq_false g46)
       assumption
     refine AW.cd (bif (decide ((List.getD (Graph.Rows g) v26 0) < 1)) then true else (decide (1000 < (List.getD (Graph.Rows g) v26 0)))) ?_ ?_
     ·
      intro h47
      have h47q : ((List.getD (Graph.Rows g) v26 0) < 1) ∨ (1000 < (List.getD (Graph.Rows g) v26 0)) := (Or.imp (fun h => (of_decide_eq_true h)) (fun h => (of_decide_eq_true h)) (Go.Am.or_pos h47))
      have e48 := e44.trans (Go.Am.bif_t h47)
      refine AW.seq (AW.r1 hC [2] [] ⟨[(2, .bool false)], []⟩ ?_)
      refine AW.ret ?_
      have e49 := e12.trans (Go.Am.elim_r e48)
      exact AW.retE (β := Bool) (fun v => [⟨.bool, v⟩]) (fun v => []) (v := false) e49 (by kernel_rfl) rfl rfl
     ·
      intro h50
      have h50q : (¬ ((List.getD (Graph.Rows g) v26 0) < 1)) ∧ (¬ (1000 < (List.getD (Graph.Rows g) v26 0))) := (And.imp (fun h => (of_decide_eq_false h)) (fun h => (of_decide_eq_false h)) (Go.Am.or_neg h50))
      have e51 := e44.trans (Go.Am.bif_f h50)
      refine AW.kpU [1, 24, 25, 26] [4] [] [] ?_
      refine AW.skip (AW.r0U hC [1, 24, 25, 26] [4] [(26, .int .i64 ((v26 + 1 : Nat) : Int))] [] [(-9223372036854775808 ≤ ((v26 + 1 : Nat) : Int) ∧ ((v26 + 1 : Nat) : Int) ≤ 9223372036854775807)] ?_ ?_)
      ·
       refine ⟨?_, trivial⟩
       ·
        omega
      refine AW.back (x := v26) (v26 + 1) (by kernel_rfl) ⟨?_, k42q, ?_, e51⟩ ?_
      ·
       show True
       assumption
      ·
       show (List.length (Graph.Rows g)) - (v26 + 1) < k42q
       omega
      ·
       show (List.length (Graph.Rows g)) - (v26 + 1) < (List.length (Graph.Rows g)) - v26
       omega
    ·
     intro h52
     have h52q : ¬ (((v26 : Nat) : Int) < ((List.length (Graph.Rows g) : Nat) : Int)) := (of_decide_eq_false h52)
     have e53 := e41.trans (Go.Am.bif_f h52)
     refine AW.kpU [1] [4] [] [] ?_
     refine AW.exit ?_
     refine AW.meet () (by kernel_rfl) ⟨?_, e53⟩
     show True
     assumption
  ·
   intro x hR
   obtain ⟨hJ0, e54⟩ := hR
   replace hJ0 : True := hJ0
   have e55 := e12.trans (Go.Am.elim_l e54)
   refine AW.seq (AW.seq (AW.r1U hC [1, 38, 39, 40] [4] [(38, .data (.slice (.named 0)) ((Graph.Edges g) : List Edge)), (39, .int .i64 ((List.length (Graph.Edges g) : Nat) : Int)), (40, .int .i64 0)] [] ?_))
   refine AW.cutQ (α := Unit) (fun x => ⟨[], []⟩) (fun x => (True) ∧ (ValidGraph_l1 g ((List.length (Graph.Edges g)) - 0 + 1) 0) = (.inl ())) ?_ ?_
   ·
    skip
    refine AW.block (AW.loop (α := Nat) (fun x => ⟨[(1, .ref 4 1 0), (38, .data (.slice (.named 0)) ((Graph.Edges g) : List Edge)), (39, .int .i64 ((List.length (Graph.Edges g) : Nat) : Int)), (40, .int .i64 ((x : Nat) : Int))], [(4, .box 1 [.data (.slice (.int .i64)) ((Graph.Rows g) : List Int), .data (.slice (.named 0)) ((Graph.Edges g) : List Edge)])]⟩) (fun x => (True) ∧ ∃ k, (List.length (Graph.Edges g)) - x < k ∧ (ValidGraph_l1 g ((List.length (Graph.Edges g)) - 0 + 1) 0) = ValidGraph_l1 g k x) (fun x => (List.length (Graph.Edges g)) - x) 0 (by kernel_rfl) ⟨?_, _, Nat.lt_succ_self _, rfl⟩ ?_)
    ·
     show True
     exact trivial
    ·
     intro v40 hR
     obtain ⟨hI1, k85, hk83, e84⟩ := hR
     replace hI1 : True := hI1
     replace hk83 : (List.length (Graph.Edges g)) - v40 < k85 := hk83
     obtain ⟨k85q, rfl⟩ : ∃ k, k85 = k + 1 := ⟨k85 - 1, by omega⟩
     refine AW.seq (AW.r1U hC [1, 38, 39, 40, 41] [4] [(41, .bool (decide (((v40 : Nat) : Int) < ((List.length (Graph.Edges g) : Nat) : Int))))] [] ?_)
     refine AW.seq (AW.cd (decide (((v40 : Nat) : Int) < ((List.length (Graph.Edges g) : Nat) : Int))) ?_ ?_)
     ·
      intro h86
      have h86q : ((v40 : Nat) : Int) < ((List.length (Graph.Edges g) : Nat) : Int) := (of_decide_eq_true h86)
      have e87 := e84.trans (Go.Am.bif_t h86)
      refine AW.kpU [1, 38, 39, 40] [4] [] [] ?_
      refine AW.skip (AW.seq (AW.block (AW.seq (AW.r0U hC [1, 6, 38, 39, 40] [4, 24] [(6, .ref 24 1 0)] [(24, .box 1 [.int .i64 (Edge.A (List.getD (Graph.Edges g) v40 Edge.zero)), .int .i64 (Edge.B (List.getD (Graph.Edges g) v40 Edge.zero)), .int .i64 (Edge.Den (List.getD (Graph.Edges g) v40 Edge.zero))])] [(0 ≤ ((v40 : Nat) : Int) ∧ ((v40 : Nat) : Int) < ((List.length (Graph.Edges g) : Nat) : Int))] ?_ ?_))))
      ·
       refine ⟨?_, trivial⟩
       ·
        omega
      refine AW.seq (AW.r0U hC [1, 38, 39, 40, 71] [4] [(71, .bool (bif (bif (bif (bif (decide ((Edge.A (List.getD (Graph.Edges g) v40 Edge.zero)) < 0)) then true else (decide ((Edge.B (List.getD (Graph.Edges g) v40 Edge.zero)) ≤ (Edge.A (List.getD (Graph.Edges g) v40 Edge.zero))))) then true else (decide (((List.length (Graph.Rows g) : Nat) : Int) ≤ (Edge.B (List.getD (Graph.Edges g) v40 Edge.zero))))) then true else (decide ((Edge.Den (List.getD (Graph.Edges g) v40 Edge.zero)) < 1))) then true else (decide (1000 < (Edge.Den (List.getD (Graph.Edges g) v40 Edge.zero))))))] [] [(((decide ((Edge.A (List.getD (Graph.Edges g) v40 Edge.zero)) < 0)) = false) → (((decide ((Edge.A (List.getD (Graph.Edges g) v40 Edge.zero)) < 0)) = false))), (((decide ((Edge.A (List.getD (Graph.Edges g) v40 Edge.zero)) < 0)) = false) → (((decide ((Edge.A (List.getD (Graph.Edges g) v40 Edge.zero)) < 0)) = false))), (((decide ((Edge.A (List.getD (Graph.Edges g) v40 Edge.zero)) < 0)) = false) → (((decide ((Edge.A (List.getD (Graph.Edges g) v40 Edge.zero)) < 0)) = false))), (((decide ((Edge.A (List.getD (Graph.Edges g) v40 Edge.zero)) < 0)) = false) → (((decide ((Edge.A (List.getD (Graph.Edges g) v40 Edge.zero)) < 0)) = false))), (((decide ((Edge.A (List.getD (Graph.Edges g) v40 Edge.zero)) < 0)) = false) → (((decide ((Edge.A (List.getD (Graph.Edges g) v40 Edge.zero)) < 0)) = false))), (((bif (decide ((Edge.A (List.getD (Graph.Edges g) v40 Edge.zero)) < 0)) then true else (decide ((Edge.B (List.getD (Graph.Edges g) v40 Edge.zero)) ≤ (Edge.A (List.getD (Graph.Edges g) v40 Edge.zero))))) = false) → (((bif (decide ((Edge.A (List.getD (Graph.Edges g) v40 Edge.zero)) < 0)) then true else (decide ((Edge.B (List.getD (Graph.Edges g) v40 Edge.zero)) ≤ (Edge.A (List.getD (Graph.Edges g) v40 Edge.zero))))) = false))), (((bif (decide ((Edge.A (List.getD (Graph.Edges g) v40 Edge.zero)) < 0)) then true else (decide ((Edge.B (List.getD (Graph.Edges g) v40 Edge.zero)) ≤ (Edge.A (List.getD (Graph.Edges g) v40 Edge.zero))))) = false) → (((bif (decide ((Edge.A (List.getD (Graph.Edges g) v40 Edge.zero)) < 0)) then true else (decide ((Edge.B (List.getD (Graph.Edges g) v40 Edge.zero)) ≤ (Edge.A (List.getD (Graph.Edges g) v40 Edge.zero))))) = false))), (((bif (decide ((Edge.A (List.getD (Graph.Edges g) v40 Edge.zero)) < 0)) then true else (decide ((Edge.B (List.getD (Graph.Edges g) v40 Edge.zero)) ≤ (Edge.A (List.getD (Graph.Edges g) v40 Edge.zero))))) = false) → (((bif (decide ((Edge.A (List.getD (Graph.Edges g) v40 Edge.zero)) < 0)) then true else (decide ((Edge.B (List.getD (Graph.Edges g) v40 Edge.zero)) ≤ (Edge.A (List.getD (Graph.Edges g) v40 Edge.zero))))) = false))), (((bif (decide ((Edge.A (List.getD (Graph.Edges g) v40 Edge.zero)) < 0)) then true else (decide ((Edge.B (List.getD (Graph.Edges g) v40 Edge.zero)) ≤ (Edge.A (List.getD (Graph.Edges g) v40 Edge.zero))))) = false) → (((bif (decide ((Edge.A (List.getD (Graph.Edges g) v40 Edge.zero)) < 0)) then true else (decide ((Edge.B (List.getD (Graph.Edges g) v40 Edge.zero)) ≤ (Edge.A (List.getD (Graph.Edges g) v40 Edge.zero))))) = false))), (((bif (decide ((Edge.A (List.getD (Graph.Edges g) v40 Edge.zero)) < 0)) then true else (decide ((Edge.B (List.getD (Graph.Edges g) v40 Edge.zero)) ≤ (Edge.A (List.getD (Graph.Edges g) v40 Edge.zero))))) = false) → (((bif (decide ((Edge.A (List.getD (Graph.Edges g) v40 Edge.zero)) < 0)) then true else (decide ((Edge.B (List.getD (Graph.Edges g) v40 Edge.zero)) ≤ (Edge.A (List.getD (Graph.Edges g) v40 Edge.zero))))) = false))), (((bif (decide ((Edge.A (List.getD (Graph.Edges g) v40 Edge.zero)) < 0)) then true else (decide ((Edge.B (List.getD (Graph.Edges g) v40 Edge.zero)) ≤ (Edge.A (List.getD (Graph.Edges g) v40 Edge.zero))))) = false) → (((bif (decide ((Edge.A (List.getD (Graph.Edges g) v40 Edge.zero)) < 0)) then true else (decide ((Edge.B (List.getD (Graph.Edges g) v40 Edge.zero)) ≤ (Edge.A (List.getD (Graph.Edges g) v40 Edge.zero))))) = false))), (((bif (bif (decide ((Edge.A (List.getD (Graph.Edges g) v40 Edge.zero)) < 0)) then true else (decide ((Edge.B (List.getD (Graph.Edges g) v40 Edge.zero)) ≤ (Edge.A (List.getD (Graph.Edges g) v40 Edge.zero))))) then true else (decide (((List.length (Graph.Rows g) : Nat) : Int) ≤ (Edge.B (List.getD (Graph.Edges g) v40 Edge.zero))))) = false) → (((bif (bif (decide ((Edge.A (List.getD (Graph.Edges g) v40 Edge.zero)) < 0)) then true else (decide ((Edge.B (List.getD (Graph.Edges g) v40 Edge.zero)) ≤ (Edge.A (List.getD (Graph.Edges g) v40 Edge.zero))))) then true else (decide (((List.length (Graph.Rows g) : Nat) : Int) ≤ (Edge.B (List.getD (Graph.Edges g) v40 Edge.zero))))) = false))), (((bif (bif (decide ((Edge.A (List.getD (Graph.Edges g) v40 Edge.zero)) < 0)) then true else (decide ((Edge.B (List.getD (Graph.Edges g) v40 Edge.zero)) ≤ (Edge.A (List.getD (Graph.Edges g) v40 Edge.zero))))) then true else (decide (((List.length (Graph.Rows g) : Nat) : Int) ≤ (Edge.B (List.getD (Graph.Edges g) v40 Edge.zero))))) = false) → (((bif (bif (decide ((Edge.A (List.getD (Graph.Edges g) v40 Edge.zero)) < 0)) then true else (decide ((Edge.B (List.getD (Graph.Edges g) v40 Edge.zero)) ≤ (Edge.A (List.getD (Graph.Edges g) v40 Edge.zero))))) then true else (decide (((List.length (Graph.Rows g) : Nat) : Int) ≤ (Edge.B (List.getD (Graph.Edges g) v40 Edge.zero))))) = false))), (((bif (bif (decide ((Edge.A (List.getD (Graph.Edges g) v40 Edge.zero)) < 0)) then true else (decide ((Edge.B (List.getD (Graph.Edges g) v40 Edge.zero)) ≤ (Edge.A (List.getD (Graph.Edges g) v40 Edge.zero))))) then true else (decide (((List.length (Graph.Rows g) : Nat) : Int) ≤ (Edge.B (List.getD (Graph.Edges g) v40 Edge.zero))))) = false) → (((bif (bif (decide ((Edge.A (List.getD (Graph.Edges g) v40 Edge.zero)) < 0)) then true else (decide ((Edge.B (List.getD (Graph.Edges g) v40 Edge.zero)) ≤ (Edge.A (List.getD (Graph.Edges g) v40 Edge.zero))))) then true else (decide (((List.length (Graph.Rows g) : Nat) : Int) ≤ (Edge.B (List.getD (Graph.Edges g) v40 Edge.zero))))) = false))), (((bif (bif (bif (decide ((Edge.A (List.getD (Graph.Edges g) v40 Edge.zero)) < 0)) then true else (decide ((Edge.B (List.getD (Graph.Edges g) v40 Edge.zero)) ≤ (Edge.A (List.getD (Graph.Edges g) v40 Edge.zero))))) then true else (decide (((List.length (Graph.Rows g) : Nat) : Int) ≤ (Edge.B (List.getD (Graph.Edges g) v40 Edge.zero))))) then true else (decide ((Edge.Den (List.getD (Graph.Edges g) v40 Edge.zero)) < 1))) = false) → (((bif (bif (bif (decide ((Edge.A (List.getD (Graph.Edges g) v40 Edge.zero)) < 0)) then true else (decide ((Edge.B (List.getD (Graph.Edges g) v40 Edge.zero)) ≤ (Edge.A (List.getD (Graph.Edges g) v40 Edge.zero))))) then true else (decide (((List.length (Graph.Rows g) : Nat) : Int) ≤ (Edge.B (List.getD (Graph.Edges g) v40 Edge.zero))))) then true else (decide ((Edge.Den (List.getD (Graph.Edges g) v40 Edge.zero)) < 1))) = false))), (((bif (bif (bif (decide ((Edge.A (List.getD (Graph.Edges g) v40 Edge.zero)) < 0)) then true else (decide ((Edge.B (List.getD (Graph.Edges g) v40 Edge.zero)) ≤ (Edge.A (List.getD (Graph.Edges g) v40 Edge.zero))))) then true else (decide (((List.length (Graph.Rows g) : Nat) : Int) ≤ (Edge.B (List.getD (Graph.Edges g) v40 Edge.zero))))) then true else (decide ((Edge.Den (List.getD (Graph.Edges g) v40 Edge.zero)) < 1))) = false) → (((bif (bif (bif (decide ((Edge.A (List.getD (Graph.Edges g) v40 Edge.zero)) < 0)) then true else (decide ((Edge.B (List.getD (Graph.Edges g) v40 Edge.zero)) ≤ (Edge.A (List.getD (Graph.Edges g) v40 Edge.zero))))) then true else (decide (((List.length (Graph.Rows g) : Nat) : Int) ≤ (Edge.B (List.getD (Graph.Edges g) v40 Edge.zero))))) then true else (decide ((Edge.Den (List.getD (Graph.Edges g) v40 Edge.zero)) < 1))) = false))), (((bif (bif (bif (decide ((Edge.A (List.getD (Graph.Edges g) v40 Edge.zero)) < 0)) then true else (decide ((Edge.B (List.getD (Graph.Edges g) v40 Edge.zero)) ≤ (Edge.A (List.getD (Graph.Edges g) v40 Edge.zero))))) then true else (decide (((List.length (Graph.Rows g) : Nat) : Int) ≤ (Edge.B (List.getD (Graph.Edges g) v40 Edge.zero))))) then true else (decide ((Edge.Den (List.getD (Graph.Edges g) v40 Edge.zero)) < 1))) = false) → (((bif (bif (bif (decide ((Edge.A (List.getD (Graph.Edges g) v40 Edge.zero)) < 0)) then true else (decide ((Edge.B (List.getD (Graph.Edges g) v40 Edge.zero)) ≤ (Edge.A (List.getD (Graph.Edges g) v40 Edge.zero))))) then true else (decide (((List.length (Graph.Rows g) : Nat) : Int) ≤ (Edge.B (List.getD (Graph.Edges g) v40 Edge.zero))))) then true else (decide ((Edge.Den (List.getD (Graph.Edges g) v40 Edge.zero)) < 1))) = false)))] ?_ ?_)
      ·
       refine ⟨?_, ?_, ?_, ?_, ?_, ?_, ?_, ?_, ?_, ?_, ?_, ?_, ?_, ?_, ?_, ?_, ?_, trivial⟩
       ·
        intro g88
        have g88p0 : ¬ ((Edge.A (List.getD (Graph.Edges g) v40 Edge.zero)) < 0) := (of_decide_eq_false g88)
        assumption
       ·
        intro g89
        have g89p0 : ¬ ((Edge.A (List.getD (Graph.Edges g) v40 Edge.zero)) < 0) := (of_decide_eq_false g89)
        assumption
       ·
        intro g90
        have g90p0 : ¬ ((Edge.A (List.getD (Graph.Edges g) v40 Edge.zero)) < 0) := (of_decide_eq_false g90)
        assumption
       ·
        intro g91
        have g91p0 : ¬ ((Edge.A (List.getD (Graph.Edges g) v40 Edge.zero)) < 0) := (of_decide_eq_false g91)
        assumption
       ·
        intro g92
        have g92p0 : ¬ ((Edge.A (List.getD (Graph.Edges g) v40 Edge.zero)) < 0) := (of_decide_eq_false g92)
        assumption
       ·
        intro g93
        have g93p0 : (¬ ((Edge.A (List.getD (Graph.Edges g) v40 Edge.zero)) < 0)) ∧ (¬ ((Edge.B (List.getD (Graph.Edges g) v40 Edge.zero)) ≤ (Edge.A (List.getD (Graph.Edges g) v40 Edge.zero)))) := (And.imp (fun h => (of_decide_eq_false h)) (fun h => (of_decide_eq_false h)) (Go.Am.or_neg g93))
        assumption
       ·
        intro g94
        have g94p0 : (¬ ((Edge.A (List.getD (Graph.Edges g) v40 Edge.zero)) < 0)) ∧ (¬ ((Edge.B (List.getD (Graph.Edges g) v40 Edge.zero)) ≤ (Edge.A (List.getD (Graph.Edges g) v40 Edge.zero)))) := (And.imp (fun h => (of_decide_eq_false h)) (fun h => (of_decide_eq_false h)) (Go.Am.or_neg g94))
        assumption
       ·
        intro g95
        have g95p0 : (¬ ((Edge.A (List.getD (Graph.Edges g) v40 Edge.zero)) < 0)) ∧ (¬ ((Edge.B (List.getD (Graph.Edges g) v40 Edge.zero)) ≤ (Edge.A (List.getD (Graph.Edges g) v40 Edge.zero)))) := (And.imp (fun h => (of_decide_eq_false h)) (fun h => (of_decide_eq_false h)) (Go.Am.or_neg g95))
        assumption
       ·
        intro g96
        have g96p0 : (¬ ((Edge.A (List.getD (Graph.Edges g) v40 Edge.zero)) < 0)) ∧ (¬ ((Edge.B (List.getD (Graph.Edges g) v40 Edge.zero)) ≤ (Edge.A (List.getD (Graph.Edges g) v40 Edge.zero)))) := (And.imp (fun h => (of_decide_eq_false h)) (fun h => (of_decide_eq_false h)) (Go.Am.or_neg g96))
        assumption
       ·
        intro g97
        have g97p0 : (¬ ((Edge.A (List.getD (Graph.Edges g) v40 Edge.zero)) < 0)) ∧ (¬ ((Edge.B (List.getD (Graph.Edges g) v40 Edge.zero)) ≤ (Edge.A (List.getD (Graph.Edges g) v40 Edge.zero)))) := (And.imp (fun h => (of_decide_eq_false h)) (fun h => (of_decide_eq_false h)) (Go.Am.or_neg g97))
        assumption
       ·
        intro g98
        have g98p0 : (¬ ((Edge.A (List.getD (Graph.Edges g) v40 Edge.zero)) < 0)) ∧ (¬ ((Edge.B (List.getD (Graph.Edges g) v40 Edge.zero)) ≤ (Edge.A (List.getD (Graph.Edges g) v40 Edge.zero)))) := (And.imp (fun h => (of_decide_eq_false h)) (fun h => (of_decide_eq_false h)) (Go.Am.or_neg g98))
        assumption
       ·
        intro g99
        have g99p0 : ((¬ ((Edge.A (List.getD (Graph.Edges g) v40 Edge.zero)) < 0)) ∧ (¬ ((Edge.B (List.getD (Graph.Edges g) v40 Edge.zero)) ≤ (Edge.A (List.getD (Graph.Edges g) v40 Edge.zero))))) ∧ (¬ (((List.length (Graph.Rows g) : Nat) : Int) ≤ (Edge.B (List.getD (Graph.Edges g) v40 Edge.zero)))) := (And.imp (fun h => (And.imp (fun h => (of_decide_eq_false h)) (fun h => (of_decide_eq_false h)) (Go.Am.or_neg h))) (fun h => (of_decide_eq_false h)) (Go.Am.or_neg g99))
        assumption
       ·
        intro g100
        have g100p0 : ((¬ ((Edge.A (List.getD (Graph.Edges g) v40 Edge.zero)) < 0)) ∧ (¬ ((Edge.B (List.getD (Graph.Edges g) v40 Edge.zero)) ≤ (Edge.A (List.getD (Graph.Edges g) v40 Edge.zero))))) ∧ (¬ (((List.length (Graph.Rows g) : Nat) : Int) ≤ (Edge.B (List.getD (Graph.Edges g) v40 Edge.zero)))) := (And.imp (fun h => (And.imp (fun h => (of_decide_eq_false h)) (fun h => (of_decide_eq_false h)) (Go.Am.or_neg h))) (fun h => (of_decide_eq_false h)) (Go.Am.or_neg g100))
        assumption
       ·
        intro g101
        have g101p0 : ((¬ ((Edge.A (List.getD (Graph.Edges g) v40 Edge.zero)) < 0)) ∧ (¬ ((Edge.B (List.getD (Graph.Edges g) v40 Edge.zero)) ≤ (Edge.A (List.getD (Graph.Edges g) v40 Edge.zero))))) ∧ (¬ (((List.length (Graph.Rows g) : Nat) : Int) ≤ (Edge.B (List.getD (Graph.Edges g) v40 Edge.zero)))) := (And.imp (fun h => (And.imp (fun h => (of_decide_eq_false h)) (fun h => (of_decide_eq_false h)) (Go.Am.or_neg h))) (fun h => (of_decide_eq_false h)) (Go.Am.or_neg g101))
        assumption
       ·
        intro g102
        have g102p0 : (((¬ ((Edge.A (List.getD (Graph.Edges g) v40 Edge.zero)) < 0)) ∧ (¬ ((Edge.B (List.getD (Graph.Edges g) v40 Edge.zero)) ≤ (Edge.A (List.getD (Graph.Edges g) v40 Edge.zero))))) ∧ (¬ (((List.length (Graph.Rows g) : Nat) : Int) ≤ (Edge.B (List.getD (Graph.Edges g) v40 Edge.zero))))) ∧ (¬ ((Edge.Den (List.getD (Graph.Edges g) v40 Edge.zero)) < 1)) := (And.imp (fun h => (And.imp (fun h => (And.imp (fun h => (of_decide_eq_false h)) (fun h => (of_decide_eq_false h)) (Go.Am.or_neg h))) (fun h => (of_decide_eq_false h)) (Go.Am.or_neg h))) (fun h => (of_decide_eq_false h)) (Go.Am.or_neg g102))
        assumption
       ·
        intro g103
        have g103p0 : (((¬ ((Edge.A (List.getD (Graph.Edges g) v40 Edge.zero)) < 0)) ∧ (¬ ((Edge.B (List.getD (Graph.Edges g) v40 Edge.zero)) ≤ (Edge.A (List.getD (Graph.Edges g) v40 Edge.zero))))) ∧ (¬ (((List.length (Graph.Rows g) : Nat) : Int) ≤ (Edge.B (List.getD (Graph.Edges g) v40 Edge.zero))))) ∧ (¬ ((Edge.Den (List.getD (Graph.Edges g) v40 Edge.zero)) < 1)) := (And.imp (fun h => (And.imp (fun h => (And.imp (fun h => (of_decide_eq_false h)) (fun h => (of_decide_eq_false h)) (Go.Am.or_neg h))) (fun h => (of_decide_eq_false h)) (Go.Am.or_neg h))) (fun h => (of_decide_eq_false h)) (Go.Am.or_neg g103))
        assumption
       ·
        intro g104
        have g104p0 : (((¬ ((Edge.A (List.getD (Graph.Edges g) v40 Edge.zero)) < 0)) ∧ (¬ ((Edge.B (List.getD (Graph.Edges g) v40 Edge.zero)) ≤ (Edge.A (List.getD (Graph.Edges g) v40 Edge.zero))))) ∧ (¬ (((List.length (Graph.Rows g) : Nat) : Int) ≤ (Edge.B (List.getD (Graph.Edges g) v40 Edge.zero))))) ∧ (¬ ((Edge.Den (List.getD (Graph.Edges g) v40 Edge.zero)) < 1)) := (And.imp (fun h => (And.imp (fun h => (And.imp (fun h => (of_decide_eq_false h)) (fun h => (of_decide_eq_false h)) (Go.Am.or_neg h))) (fun h => (of_decide_eq_false h)) (Go.Am.or_neg h))) (fun h => (of_decide_eq_false h)) (Go.Am.or_neg g104))
        assumption
      refine AW.cd (bif (bif (bif (bif (decide ((Edge.A (List.getD (Graph.Edges g) v40 Edge.zero)) < 0)) then true else (decide ((Edge.B (List.getD (Graph.Edges g) v40 Edge.zero)) ≤ (Edge.A (List.getD (Graph.Edges g) v40 Edge.zero))))) then true else (decide (((List.length (Graph.Rows g) : Nat) : Int) ≤ (Edge.B (List.getD (Graph.Edges g) v40 Edge.zero))))) then true else (decide ((Edge.Den (List.getD (Graph.Edges g) v40 Edge.zero)) < 1))) then true else (decide (1000 < (Edge.Den (List.getD (Graph.Edges g) v40 Edge.zero))))) ?_ ?_
      ·
       intro h105
       have h105q : (((((Edge.A (List.getD (Graph.Edges g) v40 Edge.zero)) < 0) ∨ ((Edge.B (List.getD (Graph.Edges g) v40 Edge.zero)) ≤ (Edge.A (List.getD (Graph.Edges g) v40 Edge.zero)))) ∨ (((List.length (Graph.Rows g) : Nat) : Int) ≤ (Edge.B (List.getD (Graph.Edges g) v40 Edge.zero)))) ∨ ((Edge.Den (List.getD (Graph.Edges g) v40 Edge.zero)) < 1)) ∨ (1000 < (Edge.Den (List.getD (Graph.Edges g) v40 Edge.zero))) := (Or.imp (fun h => (Or.imp (fun h => (Or.imp (fun h => (Or.imp (fun h => (of_decide_eq_true h)) (fun h => (of_decide_eq_true h)) (Go.Am.or_pos h))) (fun h => (of_decide_eq_true h)) (Go.Am.or_pos h))) (fun h => (of_decide_eq_true h)) (Go.Am.or_pos h))) (fun h => (of_decide_eq_true h)) (Go.Am.or_pos h105))
       have e106 := e87.trans (Go.Am.bif_t h105)
       refine AW.seq (AW.r1 hC [2] [] ⟨[(2, .bool false)], []⟩ ?_)
       refine AW.ret ?_
       have e107 := e55.trans (Go.Am.elim_r e106)
       exact AW.retE (β := Bool) (fun v => [⟨.bool, v⟩]) (fun v => []) (v := false) e107 (by kernel_rfl) rfl rfl
      ·
       intro h108
       have h108q : ((((¬ ((Edge.A (List.getD (Graph.Edges g) v40 Edge.zero)) < 0)) ∧ (¬ ((Edge.B (List.getD (Graph.Edges g) v40 Edge.zero)) ≤ (Edge.A (List.getD (Graph.Edges g) v40 Edge.zero))))) ∧ (¬ (((List.length (Graph.Rows g) : Nat) : Int) ≤ (Edge.B (List.getD (Graph.Edges g) v40 Edge.zero))))) ∧ (¬ ((Edge.Den (List.getD (Graph.Edges g) v40 Edge.zero)) < 1))) ∧ (¬ (1000 < (Edge.Den (List.getD (Graph.Edges g) v40 Edge.zero)))) := (And.imp (fun h => (And.imp (fun h => (And.imp (fun h => (And.imp (fun h => (of_decide_eq_false h)) (fun h => (of_decide_eq_false h)) (Go.Am.or_neg h))) (fun h => (of_decide_eq_false h)) (Go.Am.or_neg h))) (fun h => (of_decide_eq_false h)) (Go.Am.or_neg h))) (fun h => (of_decide_eq_false h)) (Go.Am.or_neg h108))
       have e109 := e87.trans (Go.Am.bif_f h108)
       refine AW.kpU [1, 38, 39, 40] [4] [] [] ?_
       refine AW.skip (AW.r0U hC [1, 38, 39, 40] [4] [(40, .int .i64 ((v40 + 1 : Nat) : Int))] [] [(-9223372036854775808 ≤ ((v40 + 1 : Nat) : Int) ∧ ((v40 + 1 : Nat) : Int) ≤ 9223372036854775807)] ?_ ?_)
       ·
        refine ⟨?_, trivial⟩
        ·
         omega
       refine AW.back (x := v40) (v40 + 1) (by kernel_rfl) ⟨?_, k85q, ?_, e109⟩ ?_
       ·
        show True
        assumption
       ·
        show (List.length (Graph.Edges g)) - (v40 + 1) < k85q
        omega
       ·
        show (List.length (Graph.Edges g)) - (v40 + 1) < (List.length (Graph.Edges g)) - v40
        omega
     ·
      intro h110
      have h110q : ¬ (((v40 : Nat) : Int) < ((List.length (Graph.Edges g) : Nat) : Int)) := (of_decide_eq_false h110)
      have e111 := e84.trans (Go.Am.bif_f h110)
      refine AW.kp [] [] ⟨[], []⟩ ?_
      refine AW.exit ?_
      refine AW.meet () (by kernel_rfl) ⟨?_, e111⟩
      show True
      assumption
   ·
    intro x hR
    obtain ⟨hJ1, e112⟩ := hR
    replace hJ1 : True := hJ1
    have e113 := e55.trans (Go.Am.elim_l e112)
    refine AW.seq (AW.r1 hC [2] [] ⟨[(2, .bool true)], []⟩ ?_)
    exact AW.ret (AW.retE (β := Bool) (fun v => [⟨.bool, v⟩]) (fun v => []) (v := true) e113 (by kernel_rfl) rfl rfl)

structure VG (g : Graph) : Prop where
 n1 : 1 ≤ g.Rows.length
 n5 : g.Rows.length ≤ 5
 e6 : g.Edges.length ≤ 6
 rows : ∀ x ∈ g.Rows, 1 ≤ x ∧ x ≤ 1000
 edges : ∀ e ∈ g.Edges, 0 ≤ e.A ∧ e.A < e.B ∧ e.B < (g.Rows.length : Int) ∧ 1 ≤ e.Den ∧ e.Den ≤ 1000

theorem ValidGraph_iff {g : Graph} : ValidGraph g = true ↔ VG g := by
 unfold ValidGraph
 cases h : (bif (bif (decide (((List.length (Graph.Rows g) : Nat) : Int) < 1)) then true else (decide (5 < ((List.length (Graph.Rows g) : Nat) : Int)))) then true else (decide (6 < ((List.length (Graph.Edges g) : Nat) : Int)))) with
 | true =>
  simp only [cond_true, Bool.false_eq_true, false_iff]
  rintro ⟨h1, h2, h3, _, _⟩
  rcases or_pos h with h | h
  ·
   rcases or_pos h with h | h
   ·
    have := of_decide_eq_true h; omega
   ·
    have := of_decide_eq_true h; omega
  ·
   have := of_decide_eq_true h; omega
 | false =>
  have h := (or_neg h).imp_left or_neg
  have a1 := of_decide_eq_false h.1.1
  have a2 := of_decide_eq_false h.1.2
  have a3 := of_decide_eq_false h.2
  simp only [cond_false]
  rcases all_loop (ValidGraph_l0 g) g.Rows.length (fun i => bif (decide ((List.getD (Graph.Rows g) i 0) < 1)) then true else (decide (1000 < (List.getD (Graph.Rows g) i 0)))) (fun k i => rfl) (g.Rows.length - 0 + 1) 0 (by omega) with ⟨h1, h2⟩ | ⟨h1, j, h2, h3, h4⟩
  ·
   rw [h1]
   simp only [Sum.elim_inl]
   have hr : ∀ x ∈ g.Rows, 1 ≤ x ∧ x ≤ 1000 := (forall_getD (d := 0)).1 fun j hj => by
    have := or_neg (h2 j (by omega) hj)
    have b1 := of_decide_eq_false this.1
    have b2 := of_decide_eq_false this.2
    omega
   rcases all_loop (ValidGraph_l1 g) g.Edges.length (fun v40 => (bif (bif (bif (bif (decide ((Edge.A (List.getD (Graph.Edges g) v40 Edge.zero)) < 0)) then true else (decide ((Edge.B (List.getD (Graph.Edges g) v40 Edge.zero)) ≤ (Edge.A (List.getD (Graph.Edges g) v40 Edge.zero))))) then true else (decide (((List.length (Graph.Rows g) : Nat) : Int) ≤ (Edge.B (List.getD (Graph.Edges g) v40 Edge.zero))))) then true else (decide ((Edge.Den (List.getD (Graph.Edges g) v40 Edge.zero)) < 1))) then true else (decide (1000 < (Edge.Den (List.getD (Graph.Edges g) v40 Edge.zero)))))) (fun k i => rfl) (g.Edges.length - 0 + 1) 0 (by omega) with ⟨e1, e2⟩ | ⟨e1, j, e2, e3, e4⟩
   ·
    rw [e1]
    simp only [Sum.elim_inl, true_iff]
    refine ⟨by omega, by omega, by omega, hr, (forall_getD (d := Edge.zero)).1 fun j hj => ?_⟩
    have := e2 j (by omega) hj
    have := (or_neg this).imp_left or_neg
    have b4 := of_decide_eq_false this.2
    have b3 := of_decide_eq_false this.1.2
    have := (or_neg this.1.1).imp_left or_neg
    have b2 := of_decide_eq_false this.2
    have b1 := of_decide_eq_false this.1.2
    have b0 := of_decide_eq_false this.1.1
    omega
   ·
    rw [e1]
    simp only [Sum.elim_inr, Bool.false_eq_true, false_iff]
    rintro ⟨_, _, _, _, he⟩
    have he := he _ (getD_mem g.Edges j Edge.zero e3)
    simp only [Bool.cond_true_left, Bool.or_eq_true, decide_eq_true_eq] at e4
    omega
  ·
   rw [h1]
   simp only [Sum.elim_inr, Bool.false_eq_true, false_iff]
   rintro ⟨_, _, _, hr, _⟩
   have := hr _ (getD_mem g.Rows j 0 h3)
   rcases or_pos h4 with h | h
   ·
    have := of_decide_eq_true h; omega
   ·
    have := of_decide_eq_true h; omega

theorem validGraph_iff {g : Graph} : validGraph g = true ↔ VG g := by
 unfold validGraph
 rcases all_loop (validGraph_l0 g) g.Rows.length (fun i => !(inRange (List.getD (Graph.Rows g) i 0) 1 1000)) (fun k i => rfl) (g.Rows.length - 0 + 1) 0 (by omega) with ⟨h1, h2⟩ | ⟨h1, j, h2, h3, h4⟩
 ·
  rw [h1]
  simp only [Sum.elim_inl]
  have hr : ∀ x ∈ g.Rows, 1 ≤ x ∧ x ≤ 1000 := (forall_getD (d := 0)).1 fun j hj => inRange_iff.1 (not_neg (h2 j (by omega) hj))
  rcases all_loop (validGraph_l1 g) g.Edges.length (fun i => (bif (bif (bif (decide ((Edge.A (List.getD (Graph.Edges g) i Edge.zero)) < 0)) then true else (decide ((Edge.B (List.getD (Graph.Edges g) i Edge.zero)) ≤ (Edge.A (List.getD (Graph.Edges g) i Edge.zero))))) then true else (decide (((List.length (Graph.Rows g) : Nat) : Int) ≤ (Edge.B (List.getD (Graph.Edges g) i Edge.zero))))) then true else (!(inRange (Edge.Den (List.getD (Graph.Edges g) i Edge.zero)) 1 1000)))) (fun k i => rfl) (g.Edges.length - 0 + 1) 0 (by omega) with ⟨e1, e2⟩ | ⟨e1, j, e2, e3, e4⟩
  ·
   rw [e1]
   simp only [Sum.elim_inl]
   cases hn : inRange ((List.length (Graph.Rows g) : Nat) : Int) 1 5 with
   | false =>
    simp only [cond_false, Bool.false_eq_true, false_iff]
    rintro ⟨h1, h2, _, _, _⟩
    have : inRange ((List.length (Graph.Rows g) : Nat) : Int) 1 5 = true := inRange_iff.2 ⟨by omega, by omega⟩
    rw [hn] at this
    cases this
   | true =>
    have hn := inRange_iff.1 hn
    simp only [cond_true, decide_eq_true_eq]
    constructor
    ·
     intro h6
     refine ⟨by omega, by omega, by omega, hr, (forall_getD (d := Edge.zero)).1 fun j hj => ?_⟩
     have := e2 j (by omega) hj
     have := (or_neg this).imp_left or_neg
     have b4 := inRange_iff.1 (not_neg this.2)
     have b3 := of_decide_eq_false this.1.2
     have := or_neg this.1.1
     have b2 := of_decide_eq_false this.2
     have b1 := of_decide_eq_false this.1
     omega
    ·
     rintro ⟨_, _, h, _, _⟩
     omega
  ·
   rw [e1]
   simp only [Sum.elim_inr, Bool.false_eq_true, false_iff]
   rintro ⟨_, _, _, _, he⟩
   have he := he _ (getD_mem g.Edges j Edge.zero e3)
   have hd : inRange (g.Edges.getD j Edge.zero).Den 1 1000 = true := inRange_iff.2 ⟨he.2.2.2.1, he.2.2.2.2⟩
   simp only [Bool.cond_true_left, Bool.or_eq_true, decide_eq_true_eq, hd, Bool.not_true, Bool.false_eq_true, or_false] at e4
   omega
 ·
  rw [h1]
  simp only [Sum.elim_inr, Bool.false_eq_true, false_iff]
  rintro ⟨_, _, _, hr, _⟩
  have := hr _ (getD_mem g.Rows j 0 h3)
  have hd : inRange (g.Rows.getD j 0) 1 1000 = true := inRange_iff.2 this
  rw [hd] at h4
  cases h4

theorem vg_eq (g : Graph) : validGraph g = ValidGraph g := by
 rw [Bool.eq_iff_iff, validGraph_iff, ValidGraph_iff]

end
end Go.Proofs.Ytgbapklfgjnggaa
