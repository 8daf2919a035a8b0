/-
  A part of the proof of this claim (AjB): what functions of the program compute, and plain facts of that. No conditions.
-/
import Derived.Test.YtpoohhjlpepmfaaAjW
set_option linter.all false
namespace Go.Proofs.Ytpoohhjlpepmfaa
open Go Go.Am
noncomputable section

def heldIntS_l0 (a : List Int) : Nat → Int → Nat → Int ⊕ Int
 | 0, k1, i => .inl k1
 | k + 1, k1, i => (bif (decide (((i : Nat) : Int) < ((List.length a : Nat) : Int))) then (bif ((List.getD a i 0) != k1) then (.inr (-1)) else (heldIntS_l0 a k (k1 + 1) (i + 1))) else (.inl k1))

def heldIntS (a : List Int) (n : Int) : Int := (Sum.elim (fun z => (fun (k1 : Int) => k1) z) (fun r => r) (heldIntS_l0 a ((List.length a) - 0 + 1) n 0))

def heldIntS_sp : FnSpec := mkSpec [.val (.slice (.int .i64)), .val (.int .i64)] [.val (.int .i64)] (fun (a : List Int) (n : Int) => (0 ≤ n ∧ n ≤ 1099511627776) ∧ (List.length a : Int) ≤ 4294967296) (fun (a : List Int) (n : Int) => [⟨(.int .i64), (heldIntS a n)⟩])

theorem heldIntS_ok : FnOK Try.prog 37 heldIntS_sp := by
 have hC : CtxOK Try.prog (mkCtx tyL []) := CtxOK.nil tyOK
 refine FnOK.of_body Try.func37 (by kernel_rfl) rfl (C := (mkCtx tyL [])) hC.ty (by kernel_rfl) ?_
 intro (a : List Int) (n : Int) hwf hpre E
 have hpre : (0 ≤ n ∧ n ≤ 1099511627776) ∧ (List.length a : Int) ≤ 4294967296 := hpre
 have hw_a : Wf ⟨(.slice (.int .i64)), (a : List Int)⟩ := hwf _ (List.Mem.head _)
 have hl_a : ((List.length a : Nat) : Int) ≤ 9223372036854775807 := hw_a.len
 have hw_n : Wf ⟨(.int .i64), (n : Int)⟩ := hwf _ (List.Mem.tail _ (List.Mem.head _))
 have hr_n : -9223372036854775808 ≤ n ∧ n ≤ 9223372036854775807 := hw_n.int_inv
 have e0 : heldIntS a n = heldIntS a n := rfl
 refine AW.seq (AW.r1 hC [0, 1] [] ⟨[(0, .data (.slice (.int .i64)) (a : List Int)), (1, .int .i64 n)], []⟩ ?_)
 refine AW.seq (AW.seq (AW.r1 hC [0, 1, 5] [] ⟨[(0, .data (.slice (.int .i64)) (a : List Int)), (1, .int .i64 n), (5, .int .i64 0)], []⟩ ?_))
 refine AW.cutQ (α := Int) (fun x => ⟨[(1, .int .i64 x)], []⟩) (fun x => (n ≤ x) ∧ (heldIntS_l0 a ((List.length a) - 0 + 1) n 0) = (.inl x)) ?_ ?_
 ·
  skip
  refine AW.block (AW.loop (α := Int × Nat) (fun x => ⟨[(0, .data (.slice (.int .i64)) (a : List Int)), (1, .int .i64 x.1), (5, .int .i64 ((x.2 : Nat) : Int))], []⟩) (fun x => (n ≤ x.1 ∧ x.1 ≤ n + (x.2 : Int)) ∧ ∃ k, (List.length a) - x.2 < k ∧ (heldIntS_l0 a ((List.length a) - 0 + 1) n 0) = heldIntS_l0 a k x.1 x.2) (fun x => (List.length a) - x.2) (n, 0) (by kernel_rfl) ⟨?_, _, Nat.lt_succ_self _, rfl⟩ ?_)
  ·
   show n ≤ n ∧ n ≤ n + (0 : Int)
   first | exact trivial | (refine ⟨?_, ?_⟩ <;> first | omega | simp) | omega | simp
  ·
   intro x hR
   obtain ⟨k1, i⟩ := x
   obtain ⟨hI0, k30, hk28, e29⟩ := hR
   replace hI0 : n ≤ k1 ∧ k1 ≤ n + (i : Int) := hI0
   replace hk28 : (List.length a) - i < k30 := hk28
   obtain ⟨k30q, rfl⟩ : ∃ k, k30 = k + 1 := ⟨k30 - 1, by omega⟩
   refine AW.seq (AW.seq (AW.r1 hC [0, 1, 5, 9] [] ⟨[(0, .data (.slice (.int .i64)) (a : List Int)), (1, .int .i64 k1), (5, .int .i64 ((i : Nat) : Int)), (9, .bool (decide (((i : Nat) : Int) < ((List.length a : Nat) : Int))))], []⟩ ?_))
   refine AW.cd (decide (((i : Nat) : Int) < ((List.length a : Nat) : Int))) ?_ ?_
   ·
    intro h31
    have h31q : ((i : Nat) : Int) < ((List.length a : Nat) : Int) := (of_decide_eq_true h31)
    have e32 := e29.trans (Go.Am.bif_t h31)
    refine AW.kp [0, 1, 5] [] ⟨[(0, .data (.slice (.int .i64)) (a : List Int)), (1, .int .i64 k1), (5, .int .i64 ((i : Nat) : Int))], []⟩ ?_
    refine AW.skip (AW.seq (AW.block (AW.seq (AW.seq (AW.r0 hC [0, 1, 5, 17] [] ⟨[(0, .data (.slice (.int .i64)) (a : List Int)), (1, .int .i64 k1), (5, .int .i64 ((i : Nat) : Int)), (17, .bool ((List.getD a i 0) != k1))], []⟩ [(0 ≤ ((i : Nat) : Int) ∧ ((i : Nat) : Int) < ((List.length a : Nat) : Int))] ?_ ?_)))))
    ·
     refine ⟨?_, trivial⟩
     ·
      first | omega | (dsimp only; omega) | (simp only [lens] at *; omega)
    refine AW.cd ((List.getD a i 0) != k1) ?_ ?_
    ·
     intro h33
     have h33q : (List.getD a i 0) ≠ k1 := (Go.Am.bne_pos h33)
     have e34 := e32.trans (Go.Am.bif_t h33)
     refine AW.seq (AW.r1 hC [4] [] ⟨[(4, .int .i64 (-1))], []⟩ ?_)
     refine AW.ret ?_
     have e35 := e0.trans (Go.Am.elim_r e34)
     exact AW.retE (β := Int) (fun v => [⟨(.int .i64), v⟩]) (fun v => []) (v := (-1)) e35 (by kernel_rfl) rfl rfl
    ·
     intro h36
     have h36q : (List.getD a i 0) = k1 := (Go.Am.bne_neg h36)
     have e37 := e32.trans (Go.Am.bif_f h36)
     refine AW.kp [0, 1, 5] [] ⟨[(0, .data (.slice (.int .i64)) (a : List Int)), (1, .int .i64 k1), (5, .int .i64 ((i : Nat) : Int))], []⟩ ?_
     refine AW.skip (AW.r0 hC [0, 1, 5] [] ⟨[(0, .data (.slice (.int .i64)) (a : List Int)), (1, .int .i64 (k1 + 1)), (5, .int .i64 ((i : Nat) : Int))], []⟩ [(-9223372036854775808 ≤ (k1 + 1) ∧ (k1 + 1) ≤ 9223372036854775807)] ?_ ?_)
     ·
      refine ⟨?_, trivial⟩
      ·
       first | omega | (dsimp only; omega) | (simp only [lens] at *; omega)
     refine AW.r0 hC [0, 1, 5] [] ⟨[(0, .data (.slice (.int .i64)) (a : List Int)), (1, .int .i64 (k1 + 1)), (5, .int .i64 ((i + 1 : Nat) : Int))], []⟩ [(-9223372036854775808 ≤ ((i + 1 : Nat) : Int) ∧ ((i + 1 : Nat) : Int) ≤ 9223372036854775807)] ?_ ?_
     ·
      refine ⟨?_, trivial⟩
      ·
       first | omega | (dsimp only; omega) | (simp only [lens] at *; omega)
     refine AW.back (x := (k1, i)) ((k1 + 1), i + 1) (by kernel_rfl) ⟨?_, k30q, ?_, e37⟩ ?_
     ·
      show n ≤ (k1 + 1) ∧ (k1 + 1) ≤ n + ((i + 1) : Int)
      first | assumption | exact trivial | (refine ⟨?_, ?_⟩ <;> first | omega | (simp only [lens] at *; omega)) | omega | (simp only [lens] at *; omega)
     ·
      show (List.length a) - (i + 1) < k30q
      first | omega | (simp only [lens]; omega)
     ·
      show (List.length a) - (i + 1) < (List.length a) - i
      first | omega | (simp only [lens]; omega)
   ·
    intro h38
    have h38q : ¬ (((i : Nat) : Int) < ((List.length a : Nat) : Int)) := (of_decide_eq_false h38)
    have e39 := e29.trans (Go.Am.bif_f h38)
    refine AW.kp [1] [] ⟨[(1, .int .i64 k1)], []⟩ ?_
    refine AW.exit ?_
    refine AW.meet k1 (by kernel_rfl) ⟨?_, e39⟩
    show n ≤ k1
    first | assumption | exact trivial | omega
 ·
  intro k1 hR
  obtain ⟨hJ0, e40⟩ := hR
  replace hJ0 : n ≤ k1 := hJ0
  have e41 := e0.trans (Go.Am.elim_l e40)
  refine AW.seq (AW.r1 hC [4] [] ⟨[(4, .int .i64 k1)], []⟩ ?_)
  exact AW.ret (AW.retE (β := Int) (fun v => [⟨(.int .i64), v⟩]) (fun v => []) (v := k1) e41 (by kernel_rfl) rfl rfl)

def FnExactBestCosts_l0 : Nat → Nat → Nat → (List Int) → Nat × (List Int)
 | 0, k1, i, a => (k1, a)
 | k + 1, k1, i, a => (bif (decide (((i : Nat) : Int) < ((List.length a : Nat) : Int))) then (FnExactBestCosts_l0 k (k1 + 1) (i + 1) (List.set a i ((k1 : Nat) : Int))) else (k1, a))

def FnExactBestCosts_l1 : Nat → Nat → Nat → (List Edge) → Nat
 | 0, k2, i, a1 => k2
 | k + 1, k2, i, a1 => (bif (decide (((i : Nat) : Int) < ((List.length a1 : Nat) : Int))) then (FnExactBestCosts_l1 k (((k2 + 1) + 1) + 1) (i + 1) (List.set (List.set (List.set a1 i (Edge.mk ((k2 : Nat) : Int) (Edge.B (List.getD a1 i Edge.zero)) (Edge.Den (List.getD a1 i Edge.zero)))) i (Edge.mk (Edge.A (List.getD (List.set a1 i (Edge.mk ((k2 : Nat) : Int) (Edge.B (List.getD a1 i Edge.zero)) (Edge.Den (List.getD a1 i Edge.zero)))) i Edge.zero)) ((k2 + 1 : Nat) : Int) (Edge.Den (List.getD (List.set a1 i (Edge.mk ((k2 : Nat) : Int) (Edge.B (List.getD a1 i Edge.zero)) (Edge.Den (List.getD a1 i Edge.zero)))) i Edge.zero)))) i (Edge.mk (Edge.A (List.getD (List.set (List.set a1 i (Edge.mk ((k2 : Nat) : Int) (Edge.B (List.getD a1 i Edge.zero)) (Edge.Den (List.getD a1 i Edge.zero)))) i (Edge.mk (Edge.A (List.getD (List.set a1 i (Edge.mk ((k2 : Nat) : Int) (Edge.B (List.getD a1 i Edge.zero)) (Edge.Den (List.getD a1 i Edge.zero)))) i Edge.zero)) ((k2 + 1 : Nat) : Int) (Edge.Den (List.getD (List.set a1 i (Edge.mk ((k2 : Nat) : Int) (Edge.B (List.getD a1 i Edge.zero)) (Edge.Den (List.getD a1 i Edge.zero)))) i Edge.zero)))) i Edge.zero)) (Edge.B (List.getD (List.set (List.set a1 i (Edge.mk ((k2 : Nat) : Int) (Edge.B (List.getD a1 i Edge.zero)) (Edge.Den (List.getD a1 i Edge.zero)))) i (Edge.mk (Edge.A (List.getD (List.set a1 i (Edge.mk ((k2 : Nat) : Int) (Edge.B (List.getD a1 i Edge.zero)) (Edge.Den (List.getD a1 i Edge.zero)))) i Edge.zero)) ((k2 + 1 : Nat) : Int) (Edge.Den (List.getD (List.set a1 i (Edge.mk ((k2 : Nat) : Int) (Edge.B (List.getD a1 i Edge.zero)) (Edge.Den (List.getD a1 i Edge.zero)))) i Edge.zero)))) i Edge.zero)) (((k2 + 1) + 1 : Nat) : Int)))) else k2)

def FnExactBestCosts_l2 : Nat → Nat → Nat → (List Int) → Nat × (List Int)
 | 0, k3, i, a1 => (k3, a1)
 | k + 1, k3, i, a1 => (bif (decide (((i : Nat) : Int) < ((List.length a1 : Nat) : Int))) then (FnExactBestCosts_l2 k (k3 + 1) (i + 1) (List.set a1 i ((k3 : Nat) : Int))) else (k3, a1))

def FnExactBestCosts (aG : Graph) : Bool := (bif (decide ((szGraph aG 1048576) < 0)) then true else (bif (!(eqIntS (iBestCosts (Graph.mk (toIntS (Graph.Rows aG)) (toEdgeS (Graph.Edges aG)))) (BestCosts (toGraph aG)))) then false else (bif (!(eqGraph (Graph.mk (toIntS (Graph.Rows aG)) (toEdgeS (Graph.Edges aG))) (toGraph aG))) then false else (Go.Am.andThen (FnExactBestCosts_l0 ((List.length (toIntS (Graph.Rows aG))) - 0 + 1) 1 0 (toIntS (Graph.Rows aG))) (fun z => (fun (k1 : Nat) (a : List Int) => (Go.Am.andThen (FnExactBestCosts_l1 ((List.length (toEdgeS (Graph.Edges aG))) - 0 + 1) k1 0 (toEdgeS (Graph.Edges aG))) (fun z => (fun (k2 : Nat) => (bif (bif (decide (((k2 : Nat) : Int) < 0)) then true else (!(eqIntS (iBestCosts (Graph.mk (toIntS (Graph.Rows aG)) (toEdgeS (Graph.Edges aG)))) (BestCosts (toGraph aG))))) then false else (Go.Am.andThen (FnExactBestCosts_l2 ((List.length (iBestCosts (Graph.mk (toIntS (Graph.Rows aG)) (toEdgeS (Graph.Edges aG))))) - 0 + 1) 1 0 (iBestCosts (Graph.mk (toIntS (Graph.Rows aG)) (toEdgeS (Graph.Edges aG))))) (fun z => (fun (k3 : Nat) (a1 : List Int) => (bif (decide ((heldIntS a1 1) < 0)) then false else (bif ((heldIntS a1 1) != ((k3 : Nat) : Int)) then false else (bif (!(eqIntS (iBestCosts (toGraph aG)) (BestCosts (toGraph aG)))) then false else (bif (decide ((heldIntS a1 1) < 0)) then false else (bif ((heldIntS a1 1) != ((k3 : Nat) : Int)) then false else true)))))) z.1 z.2)))) z))) z.1 z.2)))))

def FnExactBestCosts_sp : FnSpec := mkSpec [.val (.named 1)] [.val .bool] (fun (aG : Graph) => True) (fun (aG : Graph) => [⟨.bool, (FnExactBestCosts aG)⟩])

theorem FnExactBestCosts_ok : FnOK Try.prog 8 FnExactBestCosts_sp := by
 have hC : CtxOK Try.prog (mkCtx tyL [(18, szGraph_sp), (19, toGraph_sp), (20, eqGraph_sp), (22, iBestCosts_sp), (24, BestCosts_sp), (28, toIntS_sp), (30, eqIntS_sp), (37, heldIntS_sp), (59, toEdgeS_sp)]) := CtxOK.cons szGraph_ok (CtxOK.cons toGraph_ok (CtxOK.cons eqGraph_ok (CtxOK.cons iBestCosts_ok (CtxOK.cons BestCosts_ok (CtxOK.cons toIntS_ok (CtxOK.cons eqIntS_ok (CtxOK.cons heldIntS_ok (CtxOK.cons toEdgeS_ok (CtxOK.nil tyOK)))))))))
 have hM : Try.prog.follows .mixedOrders = true := Try.checked.mixed
 have hC1 := hC.rebase 1000
 have hC2 := hC.rebase 2000
 refine FnOK.of_body Try.func8 (by kernel_rfl) rfl (C := (mkCtx tyL [(18, szGraph_sp), (19, toGraph_sp), (20, eqGraph_sp), (22, iBestCosts_sp), (24, BestCosts_sp), (28, toIntS_sp), (30, eqIntS_sp), (37, heldIntS_sp), (59, toEdgeS_sp)])) hC.ty (by kernel_rfl) ?_
 intro (aG : Graph) hwf hpre E
 have hpre : True := hpre
 have hw_aG : Wf ⟨(.named 1), (aG : Graph)⟩ := hwf _ (List.Mem.head _)
 have hl_aG_Rows : ((List.length (Graph.Rows aG) : Nat) : Int) ≤ 9223372036854775807 := (hw_aG.field (tv := ⟨(.slice (.int .i64)), Graph.Rows aG⟩) (List.Mem.head _)).len
 have hl_aG_Edges : ((List.length (Graph.Edges aG) : Nat) : Int) ≤ 9223372036854775807 := (hw_aG.field (tv := ⟨(.slice (.named 0)), Graph.Edges aG⟩) (List.Mem.tail _ (List.Mem.head _))).len
 have e0 : FnExactBestCosts aG = FnExactBestCosts aG := rfl
 refine AW.seq (AW.r1 hC [1] [4] ⟨[(1, .ref 4 1 0)], [(4, .box 1 [.data (.slice (.int .i64)) ((Graph.Rows aG) : List Int), .data (.slice (.named 0)) ((Graph.Edges aG) : List Edge)])]⟩ ?_)
 refine AW.seq (AW.r1 hC [1, 3] [4] ⟨[(1, .ref 4 1 0), (3, .int .i64 1048576)], [(4, .box 1 [.data (.slice (.int .i64)) ((Graph.Rows aG) : List Int), .data (.slice (.named 0)) ((Graph.Edges aG) : List Edge)])]⟩ ?_)
 refine AW.seq (AW.r0 hC [1, 3] [4] ⟨[(1, .ref 4 1 0), (3, .int .i64 (szGraph aG 1048576))], [(4, .box 1 [.data (.slice (.int .i64)) ((Graph.Rows aG) : List Int), .data (.slice (.named 0)) ((Graph.Edges aG) : List Edge)])]⟩ [(0 ≤ (1048576 : Int))] ?_ ?_)
 ·
  refine ⟨?_, trivial⟩
  ·
   first | omega | exact szGraph_le (by assumption) | exact (szGraph_le (by assumption)).1 | exact (szGraph_le (by assumption)).2
 refine AW.seq (AW.seq (AW.r1 hC [1, 15] [4] ⟨[(1, .ref 4 1 0), (15, .bool (decide ((szGraph aG 1048576) < 0)))], [(4, .box 1 [.data (.slice (.int .i64)) ((Graph.Rows aG) : List Int), .data (.slice (.named 0)) ((Graph.Edges aG) : List Edge)])]⟩ ?_))
 refine AW.cd (decide ((szGraph aG 1048576) < 0)) ?_ ?_
 ·
  intro h1
  have h1q : (szGraph aG 1048576) < 0 := (of_decide_eq_true h1)
  have e2 := e0.trans (Go.Am.bif_t h1)
  refine AW.seq (AW.r1 hC [2] [] ⟨[(2, .bool true)], []⟩ ?_)
  exact AW.ret (AW.retE (β := Bool) (fun v => [⟨.bool, v⟩]) (fun v => []) (v := true) e2 (by kernel_rfl) rfl rfl)
 ·
  intro h3
  have h3q : ¬ ((szGraph aG 1048576) < 0) := (of_decide_eq_false h3)
  have e4 := e0.trans (Go.Am.bif_f h3)
  refine AW.kp [1] [4] ⟨[(1, .ref 4 1 0)], [(4, .box 1 [.data (.slice (.int .i64)) ((Graph.Rows aG) : List Int), .data (.slice (.named 0)) ((Graph.Edges aG) : List Edge)])]⟩ ?_
  refine AW.skip (AW.seq (AW.r0 hC [1, 4] [4, 72] ⟨[(1, .ref 4 1 0), (4, .arr 72 1)], [(4, .box 1 [.data (.slice (.int .i64)) ((Graph.Rows aG) : List Int), .data (.slice (.named 0)) ((Graph.Edges aG) : List Edge)]), (72, .arr 1 (.int .i64) ((BestCosts (toGraph aG)) : List Int))]⟩ [((List.length aG.Rows : Int) ≤ 1048576 ∧ (List.length aG.Edges : Int) ≤ 1048576), (True)] ?_ ?_))
  ·
   refine ⟨?_, ?_, trivial⟩
   ·
    first | omega | exact szGraph_le (by assumption) | exact (szGraph_le (by assumption)).1 | exact (szGraph_le (by assumption)).2
   ·
    trivial
  refine AW.seq (AW.wf_arr (id := 72) (ep := 1) (t := (.int .i64)) (xs := ((BestCosts (toGraph aG)) : List Int)) (by kernel_rfl) fun ha5 _ => ?_)
  replace ha5 : ((List.length (BestCosts (toGraph aG)) : Nat) : Int) ≤ 4294967296 := ha5
  refine AW.regionO [0, 1, 2, 3] (by rfl) ?_
  refine AWO.run hC false [] [0] [1, 2, 3] [1, 4, 19] [4, 72]
   ⟨[(1, .ref 4 1 0), (4, .arr 72 1), (19, .agg [.data (.slice (.int .i64)) ((Graph.Rows aG) : List Int), .data (.slice (.named 0)) ((Graph.Edges aG) : List Edge)])], [(4, .box 1 [.data (.slice (.int .i64)) ((Graph.Rows aG) : List Int), .data (.slice (.named 0)) ((Graph.Edges aG) : List Edge)]), (72, .arr 1 (.int .i64) ((BestCosts (toGraph aG)) : List Int))]⟩
   [] (by rfl) (by kernel_rfl) ?_ ?_
  ·
   exact trivial
  refine AWO.call hC.ty (vs := [.agg [.data (.slice (.int .i64)) ((Graph.Rows aG) : List Int), .data (.slice (.named 0)) ((Graph.Edges aG) : List Edge)]]) (caps := []) (by rfl) rfl (.inl rfl) (by decide) (by kernel_rfl) (by kernel_rfl) Try.func19 (by kernel_rfl) rfl (by kernel_rfl) ?_
  intro o1
  refine AW.kp [0, 1001, 1004] [4, 72] ⟨[(0, .agg [.data (.slice (.int .i64)) ((Graph.Rows aG) : List Int), .data (.slice (.named 0)) ((Graph.Edges aG) : List Edge)]), (1001, .ref 4 1 0), (1004, .arr 72 1)], [(4, .box 1 [.data (.slice (.int .i64)) ((Graph.Rows aG) : List Int), .data (.slice (.named 0)) ((Graph.Edges aG) : List Edge)]), (72, .arr 1 (.int .i64) ((BestCosts (toGraph aG)) : List Int))]⟩ ?_
  refine AW.seq (AW.wf_arr (id := 72) (ep := 1) (t := (.int .i64)) (xs := ((BestCosts (toGraph aG)) : List Int)) (by kernel_rfl) fun ha14 _ => ?_)
  replace ha14 : ((List.length (BestCosts (toGraph aG)) : Nat) : Int) ≤ 4294967296 := ha14
  refine AW.r1 hC1 [1, 2, 1001, 1004] [4, 72, 4004, 4008] ⟨[(1, .ref 4004 1 0), (2, .ref 4008 1 0), (1001, .ref 4 1 0), (1004, .arr 72 1)], [(4, .box 1 [.data (.slice (.int .i64)) ((Graph.Rows aG) : List Int), .data (.slice (.named 0)) ((Graph.Edges aG) : List Edge)]), (72, .arr 1 (.int .i64) ((BestCosts (toGraph aG)) : List Int)), (4004, .box 1 [.data (.slice (.int .i64)) ((Graph.Rows aG) : List Int), .data (.slice (.named 0)) ((Graph.Edges aG) : List Edge)]), (4008, .box 1 [.nilsl, .nilsl])]⟩ ?_
  refine AW.seq (AW.wf_arr (id := 72) (ep := 1) (t := (.int .i64)) (xs := ((BestCosts (toGraph aG)) : List Int)) (by kernel_rfl) fun ha15 _ => ?_)
  replace ha15 : ((List.length (BestCosts (toGraph aG)) : Nat) : Int) ≤ 4294967296 := ha15
  refine AW.r1 hC1 [1, 2, 3, 1001, 1004] [4, 72, 4004, 4008, 4012] ⟨[(1, .ref 4004 1 0), (2, .ref 4008 1 0), (3, .ref 4012 1 0), (1001, .ref 4 1 0), (1004, .arr 72 1)], [(4, .box 1 [.data (.slice (.int .i64)) ((Graph.Rows aG) : List Int), .data (.slice (.named 0)) ((Graph.Edges aG) : List Edge)]), (72, .arr 1 (.int .i64) ((BestCosts (toGraph aG)) : List Int)), (4004, .box 1 [.data (.slice (.int .i64)) ((Graph.Rows aG) : List Int), .data (.slice (.named 0)) ((Graph.Edges aG) : List Edge)]), (4008, .box 1 [.nilsl, .nilsl]), (4012, .box 1 [.nilsl, .nilsl])]⟩ ?_
  refine AW.seq (AW.wf_arr (id := 72) (ep := 1) (t := (.int .i64)) (xs := ((BestCosts (toGraph aG)) : List Int)) (by kernel_rfl) fun ha16 _ => ?_)
  replace ha16 : ((List.length (BestCosts (toGraph aG)) : Nat) : Int) ≤ 4294967296 := ha16
  refine AW.r0 hC1 [1, 2, 3, 1001, 1004] [4, 72, 4004, 4008, 4012, 4024] ⟨[(1, .ref 4004 1 0), (2, .ref 4008 1 0), (3, .ref 4012 1 0), (1001, .ref 4 1 0), (1004, .arr 72 1)], [(4, .box 1 [.data (.slice (.int .i64)) ((Graph.Rows aG) : List Int), .data (.slice (.named 0)) ((Graph.Edges aG) : List Edge)]), (72, .arr 1 (.int .i64) ((BestCosts (toGraph aG)) : List Int)), (4004, .box 1 [.data (.slice (.int .i64)) ((Graph.Rows aG) : List Int), .data (.slice (.named 0)) ((Graph.Edges aG) : List Edge)]), (4008, .box 1 [.nilsl, .nilsl]), (4012, .box 1 [.arr 4024 1, .nilsl]), (4024, .arr 1 (.int .i64) ((toIntS (Graph.Rows aG)) : List Int))]⟩ [((List.length (Graph.Rows aG) : Int) ≤ 1048576)] ?_ ?_
  ·
   refine ⟨?_, trivial⟩
   ·
    first | omega | exact szGraph_le (by assumption) | exact (szGraph_le (by assumption)).1 | exact (szGraph_le (by assumption)).2
  refine AW.seq (AW.wf_arr (id := 72) (ep := 1) (t := (.int .i64)) (xs := ((BestCosts (toGraph aG)) : List Int)) (by kernel_rfl) fun ha17 _ => ?_)
  replace ha17 : ((List.length (BestCosts (toGraph aG)) : Nat) : Int) ≤ 4294967296 := ha17
  refine AW.wf_arr (id := 4024) (ep := 1) (t := (.int .i64)) (xs := ((toIntS (Graph.Rows aG)) : List Int)) (by kernel_rfl) fun ha18 _ => ?_
  replace ha18 : ((List.length (toIntS (Graph.Rows aG)) : Nat) : Int) ≤ 4294967296 := ha18
  refine AW.r0 hC1 [2, 3, 1001, 1004] [4, 72, 4008, 4012, 4024, 4040] ⟨[(2, .ref 4008 1 0), (3, .ref 4012 1 0), (1001, .ref 4 1 0), (1004, .arr 72 1)], [(4, .box 1 [.data (.slice (.int .i64)) ((Graph.Rows aG) : List Int), .data (.slice (.named 0)) ((Graph.Edges aG) : List Edge)]), (72, .arr 1 (.int .i64) ((BestCosts (toGraph aG)) : List Int)), (4008, .box 1 [.nilsl, .nilsl]), (4012, .box 1 [.arr 4024 1, .arr 4040 1]), (4024, .arr 1 (.int .i64) ((toIntS (Graph.Rows aG)) : List Int)), (4040, .arr 1 (.named 0) ((toEdgeS (Graph.Edges aG)) : List Edge))]⟩ [((List.length (Graph.Edges aG) : Int) ≤ 1048576)] ?_ ?_
  ·
   refine ⟨?_, trivial⟩
   ·
    first | omega | exact szGraph_le (by assumption) | exact (szGraph_le (by assumption)).1 | exact (szGraph_le (by assumption)).2
  refine AW.seq (AW.wf_arr (id := 72) (ep := 1) (t := (.int .i64)) (xs := ((BestCosts (toGraph aG)) : List Int)) (by kernel_rfl) fun ha19 _ => ?_)
  replace ha19 : ((List.length (BestCosts (toGraph aG)) : Nat) : Int) ≤ 4294967296 := ha19
  refine AW.wf_arr (id := 4024) (ep := 1) (t := (.int .i64)) (xs := ((toIntS (Graph.Rows aG)) : List Int)) (by kernel_rfl) fun ha20 _ => ?_
  replace ha20 : ((List.length (toIntS (Graph.Rows aG)) : Nat) : Int) ≤ 4294967296 := ha20
  refine AW.wf_arr (id := 4040) (ep := 1) (t := (.named 0)) (xs := ((toEdgeS (Graph.Edges aG)) : List Edge)) (by kernel_rfl) fun ha21 _ => ?_
  replace ha21 : ((List.length (toEdgeS (Graph.Edges aG)) : Nat) : Int) ≤ 4294967296 := ha21
  refine AW.r1 hC1 [2, 1001, 1004] [4, 72, 4008, 4024, 4040] ⟨[(2, .ref 4008 1 0), (1001, .ref 4 1 0), (1004, .arr 72 1)], [(4, .box 1 [.data (.slice (.int .i64)) ((Graph.Rows aG) : List Int), .data (.slice (.named 0)) ((Graph.Edges aG) : List Edge)]), (72, .arr 1 (.int .i64) ((BestCosts (toGraph aG)) : List Int)), (4008, .box 1 [.arr 4024 1, .arr 4040 1]), (4024, .arr 1 (.int .i64) ((toIntS (Graph.Rows aG)) : List Int)), (4040, .arr 1 (.named 0) ((toEdgeS (Graph.Edges aG)) : List Edge))]⟩ ?_
  refine AW.ret ?_
  refine ⟨[.agg [.arr 4024 1, .arr 4040 1]], by kernel_rfl, ?_⟩
  refine AWO.keep [1, 4, 20] [4, 72, 4024, 4040] ⟨[(1, .ref 4 1 0), (4, .arr 72 1), (20, .agg [.arr 4024 1, .arr 4040 1])], [(4, .box 1 [.data (.slice (.int .i64)) ((Graph.Rows aG) : List Int), .data (.slice (.named 0)) ((Graph.Edges aG) : List Edge)]), (72, .arr 1 (.int .i64) ((BestCosts (toGraph aG)) : List Int)), (4024, .arr 1 (.int .i64) ((toIntS (Graph.Rows aG)) : List Int)), (4040, .arr 1 (.named 0) ((toEdgeS (Graph.Edges aG)) : List Edge))]⟩ (by kernel_rfl) ?_
  refine AWO.run hC false [] [2, 3] [] [1, 4, 5] [4, 20, 72, 4024, 4040]
   ⟨[(1, .ref 4 1 0), (4, .arr 72 1), (5, .ref 20 1 0)], [(4, .box 1 [.data (.slice (.int .i64)) ((Graph.Rows aG) : List Int), .data (.slice (.named 0)) ((Graph.Edges aG) : List Edge)]), (20, .box 1 [.arr 4024 1, .arr 4040 1]), (72, .arr 1 (.int .i64) ((BestCosts (toGraph aG)) : List Int)), (4024, .arr 1 (.int .i64) ((toIntS (Graph.Rows aG)) : List Int)), (4040, .arr 1 (.named 0) ((toEdgeS (Graph.Edges aG)) : List Edge))]⟩
   [] (by rfl) (by kernel_rfl) ?_ ?_
  ·
   exact trivial
  refine AWO.nil ?_
  refine AW.seq (AW.wf_arr (id := 72) (ep := 1) (t := (.int .i64)) (xs := ((BestCosts (toGraph aG)) : List Int)) (by kernel_rfl) fun ha22 _ => ?_)
  replace ha22 : ((List.length (BestCosts (toGraph aG)) : Nat) : Int) ≤ 4294967296 := ha22
  refine AW.wf_arr (id := 4024) (ep := 1) (t := (.int .i64)) (xs := ((toIntS (Graph.Rows aG)) : List Int)) (by kernel_rfl) fun ha23 _ => ?_
  replace ha23 : ((List.length (toIntS (Graph.Rows aG)) : Nat) : Int) ≤ 4294967296 := ha23
  refine AW.wf_arr (id := 4040) (ep := 1) (t := (.named 0)) (xs := ((toEdgeS (Graph.Edges aG)) : List Edge)) (by kernel_rfl) fun ha24 _ => ?_
  replace ha24 : ((List.length (toEdgeS (Graph.Edges aG)) : Nat) : Int) ≤ 4294967296 := ha24
  refine AW.r0 hC [1, 4, 5, 6] [4, 20, 72, 88, 4024, 4040] ⟨[(1, .ref 4 1 0), (4, .arr 72 1), (5, .ref 20 1 0), (6, .arr 88 1)], [(4, .box 1 [.data (.slice (.int .i64)) ((Graph.Rows aG) : List Int), .data (.slice (.named 0)) ((Graph.Edges aG) : List Edge)]), (20, .box 1 [.arr 4024 1, .arr 4040 1]), (72, .arr 1 (.int .i64) ((BestCosts (toGraph aG)) : List Int)), (88, .arr 1 (.int .i64) ((iBestCosts (Graph.mk (toIntS (Graph.Rows aG)) (toEdgeS (Graph.Edges aG)))) : List Int)), (4024, .arr 1 (.int .i64) ((toIntS (Graph.Rows aG)) : List Int)), (4040, .arr 1 (.named 0) ((toEdgeS (Graph.Edges aG)) : List Edge))]⟩ [(True)] ?_ ?_
  ·
   refine ⟨?_, trivial⟩
   ·
    trivial
  refine AW.seq (AW.seq (AW.wf_arr (id := 72) (ep := 1) (t := (.int .i64)) (xs := ((BestCosts (toGraph aG)) : List Int)) (by kernel_rfl) fun ha25 _ => ?_))
  replace ha25 : ((List.length (BestCosts (toGraph aG)) : Nat) : Int) ≤ 4294967296 := ha25
  refine AW.wf_arr (id := 88) (ep := 1) (t := (.int .i64)) (xs := ((iBestCosts (Graph.mk (toIntS (Graph.Rows aG)) (toEdgeS (Graph.Edges aG)))) : List Int)) (by kernel_rfl) fun ha26 _ => ?_
  replace ha26 : ((List.length (iBestCosts (Graph.mk (toIntS (Graph.Rows aG)) (toEdgeS (Graph.Edges aG)))) : Nat) : Int) ≤ 4294967296 := ha26
  refine AW.wf_arr (id := 4024) (ep := 1) (t := (.int .i64)) (xs := ((toIntS (Graph.Rows aG)) : List Int)) (by kernel_rfl) fun ha27 _ => ?_
  replace ha27 : ((List.length (toIntS (Graph.Rows aG)) : Nat) : Int) ≤ 4294967296 := ha27
  refine AW.wf_arr (id := 4040) (ep := 1) (t := (.named 0)) (xs := ((toEdgeS (Graph.Edges aG)) : List Edge)) (by kernel_rfl) fun ha28 _ => ?_
  replace ha28 : ((List.length (toEdgeS (Graph.Edges aG)) : Nat) : Int) ≤ 4294967296 := ha28
  refine AW.r0 hC [1, 4, 5, 6, 26] [4, 20, 72, 88, 4024, 4040] ⟨[(1, .ref 4 1 0), (4, .arr 72 1), (5, .ref 20 1 0), (6, .arr 88 1), (26, .bool (!(eqIntS (iBestCosts (Graph.mk (toIntS (Graph.Rows aG)) (toEdgeS (Graph.Edges aG)))) (BestCosts (toGraph aG)))))], [(4, .box 1 [.data (.slice (.int .i64)) ((Graph.Rows aG) : List Int), .data (.slice (.named 0)) ((Graph.Edges aG) : List Edge)]), (20, .box 1 [.arr 4024 1, .arr 4040 1]), (72, .arr 1 (.int .i64) ((BestCosts (toGraph aG)) : List Int)), (88, .arr 1 (.int .i64) ((iBestCosts (Graph.mk (toIntS (Graph.Rows aG)) (toEdgeS (Graph.Edges aG)))) : List Int)), (4024, .arr 1 (.int .i64) ((toIntS (Graph.Rows aG)) : List Int)), (4040, .arr 1 (.named 0) ((toEdgeS (Graph.Edges aG)) : List Edge))]⟩ [(True)] ?_ ?_
  ·
   refine ⟨?_, trivial⟩
   ·
    trivial
  refine AW.cd (!(eqIntS (iBestCosts (Graph.mk (toIntS (Graph.Rows aG)) (toEdgeS (Graph.Edges aG)))) (BestCosts (toGraph aG)))) ?_ ?_
  ·
   intro h29
   have h29q : (eqIntS (iBestCosts (Graph.mk (toIntS (Graph.Rows aG)) (toEdgeS (Graph.Edges aG)))) (BestCosts (toGraph aG))) = false := (Go.Am.not_pos h29)
   have e30 := e4.trans (Go.Am.bif_t h29)
   refine AW.seq (AW.wf_arr (id := 72) (ep := 1) (t := (.int .i64)) (xs := ((BestCosts (toGraph aG)) : List Int)) (by kernel_rfl) fun ha31 _ => ?_)
   replace ha31 : ((List.length (BestCosts (toGraph aG)) : Nat) : Int) ≤ 4294967296 := ha31
   refine AW.wf_arr (id := 88) (ep := 1) (t := (.int .i64)) (xs := ((iBestCosts (Graph.mk (toIntS (Graph.Rows aG)) (toEdgeS (Graph.Edges aG)))) : List Int)) (by kernel_rfl) fun ha32 _ => ?_
   replace ha32 : ((List.length (iBestCosts (Graph.mk (toIntS (Graph.Rows aG)) (toEdgeS (Graph.Edges aG)))) : Nat) : Int) ≤ 4294967296 := ha32
   refine AW.wf_arr (id := 4024) (ep := 1) (t := (.int .i64)) (xs := ((toIntS (Graph.Rows aG)) : List Int)) (by kernel_rfl) fun ha33 _ => ?_
   replace ha33 : ((List.length (toIntS (Graph.Rows aG)) : Nat) : Int) ≤ 4294967296 := ha33
   refine AW.wf_arr (id := 4040) (ep := 1) (t := (.named 0)) (xs := ((toEdgeS (Graph.Edges aG)) : List Edge)) (by kernel_rfl) fun ha34 _ => ?_
   replace ha34 : ((List.length (toEdgeS (Graph.Edges aG)) : Nat) : Int) ≤ 4294967296 := ha34
   refine AW.r1 hC [2] [] ⟨[(2, .bool false)], []⟩ ?_
   exact AW.ret (AW.retE (β := Bool) (fun v => [⟨.bool, v⟩]) (fun v => []) (v := false) e30 (by kernel_rfl) rfl rfl)
  ·
   intro h35
   have h35q : (eqIntS (iBestCosts (Graph.mk (toIntS (Graph.Rows aG)) (toEdgeS (Graph.Edges aG)))) (BestCosts (toGraph aG))) = true := (Go.Am.not_neg h35)
   have e36 := e4.trans (Go.Am.bif_f h35)
   refine AW.kp [1, 4, 5, 6] [4, 20, 72, 88, 4024, 4040] ⟨[(1, .ref 4 1 0), (4, .arr 72 1), (5, .ref 20 1 0), (6, .arr 88 1)], [(4, .box 1 [.data (.slice (.int .i64)) ((Graph.Rows aG) : List Int), .data (.slice (.named 0)) ((Graph.Edges aG) : List Edge)]), (20, .box 1 [.arr 4024 1, .arr 4040 1]), (72, .arr 1 (.int .i64) ((BestCosts (toGraph aG)) : List Int)), (88, .arr 1 (.int .i64) ((iBestCosts (Graph.mk (toIntS (Graph.Rows aG)) (toEdgeS (Graph.Edges aG)))) : List Int)), (4024, .arr 1 (.int .i64) ((toIntS (Graph.Rows aG)) : List Int)), (4040, .arr 1 (.named 0) ((toEdgeS (Graph.Edges aG)) : List Edge))]⟩ ?_
   refine AW.skip (AW.seq (AW.seq (AW.wf_arr (id := 72) (ep := 1) (t := (.int .i64)) (xs := ((BestCosts (toGraph aG)) : List Int)) (by kernel_rfl) fun ha37 _ => ?_)))
   replace ha37 : ((List.length (BestCosts (toGraph aG)) : Nat) : Int) ≤ 4294967296 := ha37
   refine AW.wf_arr (id := 88) (ep := 1) (t := (.int .i64)) (xs := ((iBestCosts (Graph.mk (toIntS (Graph.Rows aG)) (toEdgeS (Graph.Edges aG)))) : List Int)) (by kernel_rfl) fun ha38 _ => ?_
   replace ha38 : ((List.length (iBestCosts (Graph.mk (toIntS (Graph.Rows aG)) (toEdgeS (Graph.Edges aG)))) : Nat) : Int) ≤ 4294967296 := ha38
   refine AW.wf_arr (id := 4024) (ep := 1) (t := (.int .i64)) (xs := ((toIntS (Graph.Rows aG)) : List Int)) (by kernel_rfl) fun ha39 _ => ?_
   replace ha39 : ((List.length (toIntS (Graph.Rows aG)) : Nat) : Int) ≤ 4294967296 := ha39
   refine AW.wf_arr (id := 4040) (ep := 1) (t := (.named 0)) (xs := ((toEdgeS (Graph.Edges aG)) : List Edge)) (by kernel_rfl) fun ha40 _ => ?_
   replace ha40 : ((List.length (toEdgeS (Graph.Edges aG)) : Nat) : Int) ≤ 4294967296 := ha40
   refine AW.d0 hC hM [1, 4, 5, 6, 31] [4, 20, 72, 88, 4024, 4040] ⟨[(1, .ref 4 1 0), (4, .arr 72 1), (5, .ref 20 1 0), (6, .arr 88 1), (31, .bool (!(eqGraph (Graph.mk (toIntS (Graph.Rows aG)) (toEdgeS (Graph.Edges aG))) (toGraph aG))))], [(4, .box 1 [.data (.slice (.int .i64)) ((Graph.Rows aG) : List Int), .data (.slice (.named 0)) ((Graph.Edges aG) : List Edge)]), (20, .box 1 [.arr 4024 1, .arr 4040 1]), (72, .arr 1 (.int .i64) ((BestCosts (toGraph aG)) : List Int)), (88, .arr 1 (.int .i64) ((iBestCosts (Graph.mk (toIntS (Graph.Rows aG)) (toEdgeS (Graph.Edges aG)))) : List Int)), (4024, .arr 1 (.int .i64) ((toIntS (Graph.Rows aG)) : List Int)), (4040, .arr 1 (.named 0) ((toEdgeS (Graph.Edges aG)) : List Edge))]⟩ [((List.length aG.Rows : Int) ≤ 1048576 ∧ (List.length aG.Edges : Int) ≤ 1048576), (True)] ?_ ?_
   ·
    refine ⟨?_, ?_, trivial⟩
    ·
     first | omega | exact szGraph_le (by assumption) | exact (szGraph_le (by assumption)).1 | exact (szGraph_le (by assumption)).2
    ·
     trivial
   refine AW.cd (!(eqGraph (Graph.mk (toIntS (Graph.Rows aG)) (toEdgeS (Graph.Edges aG))) (toGraph aG))) ?_ ?_
   ·
    intro h41
    have h41q : (eqGraph (Graph.mk (toIntS (Graph.Rows aG)) (toEdgeS (Graph.Edges aG))) (toGraph aG)) = false := (Go.Am.not_pos h41)
    have e42 := e36.trans (Go.Am.bif_t h41)
    refine AW.seq (AW.wf_arr (id := 72) (ep := 1) (t := (.int .i64)) (xs := ((BestCosts (toGraph aG)) : List Int)) (by kernel_rfl) fun ha43 _ => ?_)
    replace ha43 : ((List.length (BestCosts (toGraph aG)) : Nat) : Int) ≤ 4294967296 := ha43
    refine AW.wf_arr (id := 88) (ep := 1) (t := (.int .i64)) (xs := ((iBestCosts (Graph.mk (toIntS (Graph.Rows aG)) (toEdgeS (Graph.Edges aG)))) : List Int)) (by kernel_rfl) fun ha44 _ => ?_
    replace ha44 : ((List.length (iBestCosts (Graph.mk (toIntS (Graph.Rows aG)) (toEdgeS (Graph.Edges aG)))) : Nat) : Int) ≤ 4294967296 := ha44
    refine AW.wf_arr (id := 4024) (ep := 1) (t := (.int .i64)) (xs := ((toIntS (Graph.Rows aG)) : List Int)) (by kernel_rfl) fun ha45 _ => ?_
    replace ha45 : ((List.length (toIntS (Graph.Rows aG)) : Nat) : Int) ≤ 4294967296 := ha45
    refine AW.wf_arr (id := 4040) (ep := 1) (t := (.named 0)) (xs := ((toEdgeS (Graph.Edges aG)) : List Edge)) (by kernel_rfl) fun ha46 _ => ?_
    replace ha46 : ((List.length (toEdgeS (Graph.Edges aG)) : Nat) : Int) ≤ 4294967296 := ha46
    refine AW.r1 hC [2] [] ⟨[(2, .bool false)], []⟩ ?_
    exact AW.ret (AW.retE (β := Bool) (fun v => [⟨.bool, v⟩]) (fun v => []) (v := false) e42 (by kernel_rfl) rfl rfl)
   ·
    intro h47
    have h47q : (eqGraph (Graph.mk (toIntS (Graph.Rows aG)) (toEdgeS (Graph.Edges aG))) (toGraph aG)) = true := (Go.Am.not_neg h47)
    have e48 := e36.trans (Go.Am.bif_f h47)
    refine AW.kp [1, 4, 5, 6] [4, 20, 72, 88, 4024, 4040] ⟨[(1, .ref 4 1 0), (4, .arr 72 1), (5, .ref 20 1 0), (6, .arr 88 1)], [(4, .box 1 [.data (.slice (.int .i64)) ((Graph.Rows aG) : List Int), .data (.slice (.named 0)) ((Graph.Edges aG) : List Edge)]), (20, .box 1 [.arr 4024 1, .arr 4040 1]), (72, .arr 1 (.int .i64) ((BestCosts (toGraph aG)) : List Int)), (88, .arr 1 (.int .i64) ((iBestCosts (Graph.mk (toIntS (Graph.Rows aG)) (toEdgeS (Graph.Edges aG)))) : List Int)), (4024, .arr 1 (.int .i64) ((toIntS (Graph.Rows aG)) : List Int)), (4040, .arr 1 (.named 0) ((toEdgeS (Graph.Edges aG)) : List Edge))]⟩ ?_
    refine AW.skip (AW.seq (AW.wf_arr (id := 72) (ep := 1) (t := (.int .i64)) (xs := ((BestCosts (toGraph aG)) : List Int)) (by kernel_rfl) fun ha49 _ => ?_))
    replace ha49 : ((List.length (BestCosts (toGraph aG)) : Nat) : Int) ≤ 4294967296 := ha49
    refine AW.wf_arr (id := 88) (ep := 1) (t := (.int .i64)) (xs := ((iBestCosts (Graph.mk (toIntS (Graph.Rows aG)) (toEdgeS (Graph.Edges aG)))) : List Int)) (by kernel_rfl) fun ha50 _ => ?_
    replace ha50 : ((List.length (iBestCosts (Graph.mk (toIntS (Graph.Rows aG)) (toEdgeS (Graph.Edges aG)))) : Nat) : Int) ≤ 4294967296 := ha50
    refine AW.wf_arr (id := 4024) (ep := 1) (t := (.int .i64)) (xs := ((toIntS (Graph.Rows aG)) : List Int)) (by kernel_rfl) fun ha51 _ => ?_
    replace ha51 : ((List.length (toIntS (Graph.Rows aG)) : Nat) : Int) ≤ 4294967296 := ha51
    refine AW.wf_arr (id := 4040) (ep := 1) (t := (.named 0)) (xs := ((toEdgeS (Graph.Edges aG)) : List Edge)) (by kernel_rfl) fun ha52 _ => ?_
    replace ha52 : ((List.length (toEdgeS (Graph.Edges aG)) : Nat) : Int) ≤ 4294967296 := ha52
    refine AW.r1 hC [1, 4, 5, 6, 7] [4, 20, 72, 88, 4024, 4040] ⟨[(1, .ref 4 1 0), (4, .arr 72 1), (5, .ref 20 1 0), (6, .arr 88 1), (7, .int .i64 1)], [(4, .box 1 [.data (.slice (.int .i64)) ((Graph.Rows aG) : List Int), .data (.slice (.named 0)) ((Graph.Edges aG) : List Edge)]), (20, .box 1 [.arr 4024 1, .arr 4040 1]), (72, .arr 1 (.int .i64) ((BestCosts (toGraph aG)) : List Int)), (88, .arr 1 (.int .i64) ((iBestCosts (Graph.mk (toIntS (Graph.Rows aG)) (toEdgeS (Graph.Edges aG)))) : List Int)), (4024, .arr 1 (.int .i64) ((toIntS (Graph.Rows aG)) : List Int)), (4040, .arr 1 (.named 0) ((toEdgeS (Graph.Edges aG)) : List Edge))]⟩ ?_
    refine AW.seq (AW.wf_arr (id := 72) (ep := 1) (t := (.int .i64)) (xs := ((BestCosts (toGraph aG)) : List Int)) (by kernel_rfl) fun ha53 _ => ?_)
    replace ha53 : ((List.length (BestCosts (toGraph aG)) : Nat) : Int) ≤ 4294967296 := ha53
    refine AW.wf_arr (id := 88) (ep := 1) (t := (.int .i64)) (xs := ((iBestCosts (Graph.mk (toIntS (Graph.Rows aG)) (toEdgeS (Graph.Edges aG)))) : List Int)) (by kernel_rfl) fun ha54 _ => ?_
    replace ha54 : ((List.length (iBestCosts (Graph.mk (toIntS (Graph.Rows aG)) (toEdgeS (Graph.Edges aG)))) : Nat) : Int) ≤ 4294967296 := ha54
    refine AW.wf_arr (id := 4024) (ep := 1) (t := (.int .i64)) (xs := ((toIntS (Graph.Rows aG)) : List Int)) (by kernel_rfl) fun ha55 _ => ?_
    replace ha55 : ((List.length (toIntS (Graph.Rows aG)) : Nat) : Int) ≤ 4294967296 := ha55
    refine AW.wf_arr (id := 4040) (ep := 1) (t := (.named 0)) (xs := ((toEdgeS (Graph.Edges aG)) : List Edge)) (by kernel_rfl) fun ha56 _ => ?_
    replace ha56 : ((List.length (toEdgeS (Graph.Edges aG)) : Nat) : Int) ≤ 4294967296 := ha56
    refine AW.regionO [0, 1, 2, 3] (by rfl) ?_
    refine AWO.run hC false [] [0, 1] [2, 3] [1, 4, 6, 7, 32, 33] [4, 72, 88, 4024, 4040]
     ⟨[(1, .ref 4 1 0), (4, .arr 72 1), (6, .arr 88 1), (7, .int .i64 1), (32, .agg [.arr 4024 1, .arr 4040 1]), (33, .int .i64 1)], [(4, .box 1 [.data (.slice (.int .i64)) ((Graph.Rows aG) : List Int), .data (.slice (.named 0)) ((Graph.Edges aG) : List Edge)]), (72, .arr 1 (.int .i64) ((BestCosts (toGraph aG)) : List Int)), (88, .arr 1 (.int .i64) ((iBestCosts (Graph.mk (toIntS (Graph.Rows aG)) (toEdgeS (Graph.Edges aG)))) : List Int)), (4024, .arr 1 (.int .i64) ((toIntS (Graph.Rows aG)) : List Int)), (4040, .arr 1 (.named 0) ((toEdgeS (Graph.Edges aG)) : List Edge))]⟩
     [] (by rfl) (by kernel_rfl) ?_ ?_
    ·
     exact trivial
    refine AWO.call hC.ty (vs := [.agg [.arr 4024 1, .arr 4040 1], .int .i64 1]) (caps := []) (by rfl) rfl (.inl rfl) (by decide) (by kernel_rfl) (by kernel_rfl) Try.func35 (by kernel_rfl) rfl (by kernel_rfl) ?_
    intro o1
    refine AW.kp [0, 1, 1001, 1004, 1006, 1007] [4, 72, 88, 4024, 4040] ⟨[(0, .agg [.arr 4024 1, .arr 4040 1]), (1, .int .i64 1), (1001, .ref 4 1 0), (1004, .arr 72 1), (1006, .arr 88 1), (1007, .int .i64 1)], [(4, .box 1 [.data (.slice (.int .i64)) ((Graph.Rows aG) : List Int), .data (.slice (.named 0)) ((Graph.Edges aG) : List Edge)]), (72, .arr 1 (.int .i64) ((BestCosts (toGraph aG)) : List Int)), (88, .arr 1 (.int .i64) ((iBestCosts (Graph.mk (toIntS (Graph.Rows aG)) (toEdgeS (Graph.Edges aG)))) : List Int)), (4024, .arr 1 (.int .i64) ((toIntS (Graph.Rows aG)) : List Int)), (4040, .arr 1 (.named 0) ((toEdgeS (Graph.Edges aG)) : List Edge))]⟩ ?_
    refine AW.seq (AW.wf_arr (id := 72) (ep := 1) (t := (.int .i64)) (xs := ((BestCosts (toGraph aG)) : List Int)) (by kernel_rfl) fun ha515 _ => ?_)
    replace ha515 : ((List.length (BestCosts (toGraph aG)) : Nat) : Int) ≤ 4294967296 := ha515
    refine AW.wf_arr (id := 88) (ep := 1) (t := (.int .i64)) (xs := ((iBestCosts (Graph.mk (toIntS (Graph.Rows aG)) (toEdgeS (Graph.Edges aG)))) : List Int)) (by kernel_rfl) fun ha516 _ => ?_
    replace ha516 : ((List.length (iBestCosts (Graph.mk (toIntS (Graph.Rows aG)) (toEdgeS (Graph.Edges aG)))) : Nat) : Int) ≤ 4294967296 := ha516
    refine AW.wf_arr (id := 4024) (ep := 1) (t := (.int .i64)) (xs := ((toIntS (Graph.Rows aG)) : List Int)) (by kernel_rfl) fun ha517 _ => ?_
    replace ha517 : ((List.length (toIntS (Graph.Rows aG)) : Nat) : Int) ≤ 4294967296 := ha517
    refine AW.wf_arr (id := 4040) (ep := 1) (t := (.named 0)) (xs := ((toEdgeS (Graph.Edges aG)) : List Edge)) (by kernel_rfl) fun ha518 _ => ?_
    replace ha518 : ((List.length (toEdgeS (Graph.Edges aG)) : Nat) : Int) ≤ 4294967296 := ha518
    refine AW.r1 hC1 [1, 2, 1001, 1004, 1006, 1007] [4, 72, 88, 4008, 4024, 4040] ⟨[(1, .int .i64 1), (2, .ref 4008 1 0), (1001, .ref 4 1 0), (1004, .arr 72 1), (1006, .arr 88 1), (1007, .int .i64 1)], [(4, .box 1 [.data (.slice (.int .i64)) ((Graph.Rows aG) : List Int), .data (.slice (.named 0)) ((Graph.Edges aG) : List Edge)]), (72, .arr 1 (.int .i64) ((BestCosts (toGraph aG)) : List Int)), (88, .arr 1 (.int .i64) ((iBestCosts (Graph.mk (toIntS (Graph.Rows aG)) (toEdgeS (Graph.Edges aG)))) : List Int)), (4008, .box 1 [.arr 4024 1, .arr 4040 1]), (4024, .arr 1 (.int .i64) ((toIntS (Graph.Rows aG)) : List Int)), (4040, .arr 1 (.named 0) ((toEdgeS (Graph.Edges aG)) : List Edge))]⟩ ?_
    refine AW.seq (AW.wf_arr (id := 72) (ep := 1) (t := (.int .i64)) (xs := ((BestCosts (toGraph aG)) : List Int)) (by kernel_rfl) fun ha519 _ => ?_)
    replace ha519 : ((List.length (BestCosts (toGraph aG)) : Nat) : Int) ≤ 4294967296 := ha519
    refine AW.wf_arr (id := 88) (ep := 1) (t := (.int .i64)) (xs := ((iBestCosts (Graph.mk (toIntS (Graph.Rows aG)) (toEdgeS (Graph.Edges aG)))) : List Int)) (by kernel_rfl) fun ha520 _ => ?_
    replace ha520 : ((List.length (iBestCosts (Graph.mk (toIntS (Graph.Rows aG)) (toEdgeS (Graph.Edges aG)))) : Nat) : Int) ≤ 4294967296 := ha520
    refine AW.wf_arr (id := 4024) (ep := 1) (t := (.int .i64)) (xs := ((toIntS (Graph.Rows aG)) : List Int)) (by kernel_rfl) fun ha521 _ => ?_
    replace ha521 : ((List.length (toIntS (Graph.Rows aG)) : Nat) : Int) ≤ 4294967296 := ha521
    refine AW.wf_arr (id := 4040) (ep := 1) (t := (.named 0)) (xs := ((toEdgeS (Graph.Edges aG)) : List Edge)) (by kernel_rfl) fun ha522 _ => ?_
    replace ha522 : ((List.length (toEdgeS (Graph.Edges aG)) : Nat) : Int) ≤ 4294967296 := ha522
    refine AW.regionO [0, 1, 2, 3, 4] (by rfl) ?_
    refine AWO.run hC1 false [] [0, 1, 2] [3, 4] [1, 2, 6, 7, 1001, 1004, 1006, 1007] [4, 72, 88, 4008, 4024, 4040]
     ⟨[(1, .int .i64 1), (2, .ref 4008 1 0), (6, .arr 4024 1), (7, .int .i64 1), (1001, .ref 4 1 0), (1004, .arr 72 1), (1006, .arr 88 1), (1007, .int .i64 1)], [(4, .box 1 [.data (.slice (.int .i64)) ((Graph.Rows aG) : List Int), .data (.slice (.named 0)) ((Graph.Edges aG) : List Edge)]), (72, .arr 1 (.int .i64) ((BestCosts (toGraph aG)) : List Int)), (88, .arr 1 (.int .i64) ((iBestCosts (Graph.mk (toIntS (Graph.Rows aG)) (toEdgeS (Graph.Edges aG)))) : List Int)), (4008, .box 1 [.arr 4024 1, .arr 4040 1]), (4024, .arr 1 (.int .i64) ((toIntS (Graph.Rows aG)) : List Int)), (4040, .arr 1 (.named 0) ((toEdgeS (Graph.Edges aG)) : List Edge))]⟩
     [] (by rfl) (by kernel_rfl) ?_ ?_
    ·
     exact trivial
    refine AWO.call hC1.ty (vs := [.arr 4024 1, .int .i64 1]) (caps := []) (by rfl) rfl (.inl rfl) (by decide) (by kernel_rfl) (by kernel_rfl) Try.func36 (by kernel_rfl) rfl (by kernel_rfl) ?_
    intro o2
    refine AW.kp [0, 1, 1001, 1002, 2001, 2004, 2006, 2007] [4, 72, 88, 4008, 4024, 4040] ⟨[(0, .arr 4024 1), (1, .int .i64 1), (1001, .int .i64 1), (1002, .ref 4008 1 0), (2001, .ref 4 1 0), (2004, .arr 72 1), (2006, .arr 88 1), (2007, .int .i64 1)], [(4, .box 1 [.data (.slice (.int .i64)) ((Graph.Rows aG) : List Int), .data (.slice (.named 0)) ((Graph.Edges aG) : List Edge)]), (72, .arr 1 (.int .i64) ((BestCosts (toGraph aG)) : List Int)), (88, .arr 1 (.int .i64) ((iBestCosts (Graph.mk (toIntS (Graph.Rows aG)) (toEdgeS (Graph.Edges aG)))) : List Int)), (4008, .box 1 [.arr 4024 1, .arr 4040 1]), (4024, .arr 1 (.int .i64) ((toIntS (Graph.Rows aG)) : List Int)), (4040, .arr 1 (.named 0) ((toEdgeS (Graph.Edges aG)) : List Edge))]⟩ ?_
    refine AW.seq (AW.wf_arr (id := 72) (ep := 1) (t := (.int .i64)) (xs := ((BestCosts (toGraph aG)) : List Int)) (by kernel_rfl) fun ha620 _ => ?_)
    replace ha620 : ((List.length (BestCosts (toGraph aG)) : Nat) : Int) ≤ 4294967296 := ha620
    refine AW.wf_arr (id := 88) (ep := 1) (t := (.int .i64)) (xs := ((iBestCosts (Graph.mk (toIntS (Graph.Rows aG)) (toEdgeS (Graph.Edges aG)))) : List Int)) (by kernel_rfl) fun ha621 _ => ?_
    replace ha621 : ((List.length (iBestCosts (Graph.mk (toIntS (Graph.Rows aG)) (toEdgeS (Graph.Edges aG)))) : Nat) : Int) ≤ 4294967296 := ha621
    refine AW.wf_arr (id := 4024) (ep := 1) (t := (.int .i64)) (xs := ((toIntS (Graph.Rows aG)) : List Int)) (by kernel_rfl) fun ha622 _ => ?_
    replace ha622 : ((List.length (toIntS (Graph.Rows aG)) : Nat) : Int) ≤ 4294967296 := ha622
    refine AW.wf_arr (id := 4040) (ep := 1) (t := (.named 0)) (xs := ((toEdgeS (Graph.Edges aG)) : List Edge)) (by kernel_rfl) fun ha623 _ => ?_
    replace ha623 : ((List.length (toEdgeS (Graph.Edges aG)) : Nat) : Int) ≤ 4294967296 := ha623
    refine AW.r1 hC2 [0, 1, 1001, 1002, 2001, 2004, 2006, 2007] [4, 72, 88, 4008, 4024, 4040] ⟨[(0, .arr 4024 1), (1, .int .i64 1), (1001, .int .i64 1), (1002, .ref 4008 1 0), (2001, .ref 4 1 0), (2004, .arr 72 1), (2006, .arr 88 1), (2007, .int .i64 1)], [(4, .box 1 [.data (.slice (.int .i64)) ((Graph.Rows aG) : List Int), .data (.slice (.named 0)) ((Graph.Edges aG) : List Edge)]), (72, .arr 1 (.int .i64) ((BestCosts (toGraph aG)) : List Int)), (88, .arr 1 (.int .i64) ((iBestCosts (Graph.mk (toIntS (Graph.Rows aG)) (toEdgeS (Graph.Edges aG)))) : List Int)), (4008, .box 1 [.arr 4024 1, .arr 4040 1]), (4024, .arr 1 (.int .i64) ((toIntS (Graph.Rows aG)) : List Int)), (4040, .arr 1 (.named 0) ((toEdgeS (Graph.Edges aG)) : List Edge))]⟩ ?_
    refine AW.seq (AW.seq (AW.wf_arr (id := 72) (ep := 1) (t := (.int .i64)) (xs := ((BestCosts (toGraph aG)) : List Int)) (by kernel_rfl) fun ha624 _ => ?_))
    replace ha624 : ((List.length (BestCosts (toGraph aG)) : Nat) : Int) ≤ 4294967296 := ha624
    refine AW.wf_arr (id := 88) (ep := 1) (t := (.int .i64)) (xs := ((iBestCosts (Graph.mk (toIntS (Graph.Rows aG)) (toEdgeS (Graph.Edges aG)))) : List Int)) (by kernel_rfl) fun ha625 _ => ?_
    replace ha625 : ((List.length (iBestCosts (Graph.mk (toIntS (Graph.Rows aG)) (toEdgeS (Graph.Edges aG)))) : Nat) : Int) ≤ 4294967296 := ha625
    refine AW.wf_arr (id := 4024) (ep := 1) (t := (.int .i64)) (xs := ((toIntS (Graph.Rows aG)) : List Int)) (by kernel_rfl) fun ha626 _ => ?_
    replace ha626 : ((List.length (toIntS (Graph.Rows aG)) : Nat) : Int) ≤ 4294967296 := ha626
    refine AW.wf_arr (id := 4040) (ep := 1) (t := (.named 0)) (xs := ((toEdgeS (Graph.Edges aG)) : List Edge)) (by kernel_rfl) fun ha627 _ => ?_
    replace ha627 : ((List.length (toEdgeS (Graph.Edges aG)) : Nat) : Int) ≤ 4294967296 := ha627
    refine AW.r1 hC2 [0, 1, 5, 1001, 1002, 2001, 2004, 2006, 2007] [4, 72, 88, 4008, 4024, 4040] ⟨[(0, .arr 4024 1), (1, .int .i64 1), (5, .int .i64 0), (1001, .int .i64 1), (1002, .ref 4008 1 0), (2001, .ref 4 1 0), (2004, .arr 72 1), (2006, .arr 88 1), (2007, .int .i64 1)], [(4, .box 1 [.data (.slice (.int .i64)) ((Graph.Rows aG) : List Int), .data (.slice (.named 0)) ((Graph.Edges aG) : List Edge)]), (72, .arr 1 (.int .i64) ((BestCosts (toGraph aG)) : List Int)), (88, .arr 1 (.int .i64) ((iBestCosts (Graph.mk (toIntS (Graph.Rows aG)) (toEdgeS (Graph.Edges aG)))) : List Int)), (4008, .box 1 [.arr 4024 1, .arr 4040 1]), (4024, .arr 1 (.int .i64) ((toIntS (Graph.Rows aG)) : List Int)), (4040, .arr 1 (.named 0) ((toEdgeS (Graph.Edges aG)) : List Edge))]⟩ ?_
    refine AW.cutQ (α := Nat × (List Int)) (fun x => ⟨[(1, .int .i64 ((x.1 : Nat) : Int)), (1001, .int .i64 1), (1002, .ref 4008 1 0), (2001, .ref 4 1 0), (2004, .arr 72 1), (2006, .arr 88 1), (2007, .int .i64 1)], [(4, .box 1 [.data (.slice (.int .i64)) ((Graph.Rows aG) : List Int), .data (.slice (.named 0)) ((Graph.Edges aG) : List Edge)]), (72, .arr 1 (.int .i64) ((BestCosts (toGraph aG)) : List Int)), (88, .arr 1 (.int .i64) ((iBestCosts (Graph.mk (toIntS (Graph.Rows aG)) (toEdgeS (Graph.Edges aG)))) : List Int)), (4008, .box 1 [.arr 4024 1, .arr 4040 1]), (4024, .arr 1 (.int .i64) (x.2 : List Int)), (4040, .arr 1 (.named 0) ((toEdgeS (Graph.Edges aG)) : List Edge))]⟩) (fun x => ((1 ≤ x.1 ∧ x.1 ≤ 4294967297) ∧ List.length x.2 ≤ 4294967296) ∧ (FnExactBestCosts_l0 ((List.length (toIntS (Graph.Rows aG))) - 0 + 1) 1 0 (toIntS (Graph.Rows aG))) = x) ?_ ?_
    ·
     skip
     refine AW.block (AW.loop (α := Nat × Nat × (List Int)) (fun x => ⟨[(0, .arr 4024 1), (1, .int .i64 ((x.1 : Nat) : Int)), (5, .int .i64 ((x.2.1 : Nat) : Int)), (1001, .int .i64 1), (1002, .ref 4008 1 0), (2001, .ref 4 1 0), (2004, .arr 72 1), (2006, .arr 88 1), (2007, .int .i64 1)], [(4, .box 1 [.data (.slice (.int .i64)) ((Graph.Rows aG) : List Int), .data (.slice (.named 0)) ((Graph.Edges aG) : List Edge)]), (72, .arr 1 (.int .i64) ((BestCosts (toGraph aG)) : List Int)), (88, .arr 1 (.int .i64) ((iBestCosts (Graph.mk (toIntS (Graph.Rows aG)) (toEdgeS (Graph.Edges aG)))) : List Int)), (4008, .box 1 [.arr 4024 1, .arr 4040 1]), (4024, .arr 1 (.int .i64) (x.2.2 : List Int)), (4040, .arr 1 (.named 0) ((toEdgeS (Graph.Edges aG)) : List Edge))]⟩) (fun x => ((1 ≤ x.1 ∧ x.1 ≤ 1 + 1 * x.2.1) ∧ (x.2.1 ≤ List.length x.2.2 ∧ List.length x.2.2 ≤ 4294967296)) ∧ ∃ k, (List.length x.2.2) - x.2.1 < k ∧ (FnExactBestCosts_l0 ((List.length (toIntS (Graph.Rows aG))) - 0 + 1) 1 0 (toIntS (Graph.Rows aG))) = FnExactBestCosts_l0 k x.1 x.2.1 x.2.2) (fun x => (List.length x.2.2) - x.2.1) (1, 0, (toIntS (Graph.Rows aG))) (by kernel_rfl) ⟨?_, _, Nat.lt_succ_self _, rfl⟩ ?_)
     ·
      show (1 ≤ 1 ∧ 1 ≤ 1 + 1 * 0) ∧ (0 ≤ List.length (toIntS (Graph.Rows aG)) ∧ List.length (toIntS (Graph.Rows aG)) ≤ 4294967296)
      exact ⟨⟨by omega, by omega⟩, by omega, by omega⟩
     ·
      intro x hR
      obtain ⟨k1, i, a⟩ := x
      obtain ⟨hI0, k690, hk688, e689⟩ := hR
      replace hI0 : (1 ≤ k1 ∧ k1 ≤ 1 + 1 * i) ∧ (i ≤ List.length a ∧ List.length a ≤ 4294967296) := hI0
      replace hk688 : (List.length a) - i < k690 := hk688
      obtain ⟨k690q, rfl⟩ : ∃ k, k690 = k + 1 := ⟨k690 - 1, by omega⟩
      refine AW.seq (AW.seq (AW.wf_arr (id := 72) (ep := 1) (t := (.int .i64)) (xs := ((BestCosts (toGraph aG)) : List Int)) (by kernel_rfl) fun ha691 _ => ?_))
      replace ha691 : ((List.length (BestCosts (toGraph aG)) : Nat) : Int) ≤ 4294967296 := ha691
      refine AW.wf_arr (id := 88) (ep := 1) (t := (.int .i64)) (xs := ((iBestCosts (Graph.mk (toIntS (Graph.Rows aG)) (toEdgeS (Graph.Edges aG)))) : List Int)) (by kernel_rfl) fun ha692 _ => ?_
      replace ha692 : ((List.length (iBestCosts (Graph.mk (toIntS (Graph.Rows aG)) (toEdgeS (Graph.Edges aG)))) : Nat) : Int) ≤ 4294967296 := ha692
      refine AW.wf_arr (id := 4024) (ep := 1) (t := (.int .i64)) (xs := (a : List Int)) (by kernel_rfl) fun ha693 _ => ?_
      replace ha693 : ((List.length a : Nat) : Int) ≤ 4294967296 := ha693
      refine AW.wf_arr (id := 4040) (ep := 1) (t := (.named 0)) (xs := ((toEdgeS (Graph.Edges aG)) : List Edge)) (by kernel_rfl) fun ha694 _ => ?_
      replace ha694 : ((List.length (toEdgeS (Graph.Edges aG)) : Nat) : Int) ≤ 4294967296 := ha694
      refine AW.r1 hC2 [0, 1, 5, 9, 1001, 1002, 2001, 2004, 2006, 2007] [4, 72, 88, 4008, 4024, 4040] ⟨[(0, .arr 4024 1), (1, .int .i64 ((k1 : Nat) : Int)), (5, .int .i64 ((i : Nat) : Int)), (9, .bool (decide (((i : Nat) : Int) < ((List.length a : Nat) : Int)))), (1001, .int .i64 1), (1002, .ref 4008 1 0), (2001, .ref 4 1 0), (2004, .arr 72 1), (2006, .arr 88 1), (2007, .int .i64 1)], [(4, .box 1 [.data (.slice (.int .i64)) ((Graph.Rows aG) : List Int), .data (.slice (.named 0)) ((Graph.Edges aG) : List Edge)]), (72, .arr 1 (.int .i64) ((BestCosts (toGraph aG)) : List Int)), (88, .arr 1 (.int .i64) ((iBestCosts (Graph.mk (toIntS (Graph.Rows aG)) (toEdgeS (Graph.Edges aG)))) : List Int)), (4008, .box 1 [.arr 4024 1, .arr 4040 1]), (4024, .arr 1 (.int .i64) (a : List Int)), (4040, .arr 1 (.named 0) ((toEdgeS (Graph.Edges aG)) : List Edge))]⟩ ?_
      refine AW.cd (decide (((i : Nat) : Int) < ((List.length a : Nat) : Int))) ?_ ?_
      ·
       intro h695
       have h695q : ((i : Nat) : Int) < ((List.length a : Nat) : Int) := (of_decide_eq_true h695)
       have e696 := e689.trans (Go.Am.bif_t h695)
       refine AW.kp [0, 1, 5, 1001, 1002, 2001, 2004, 2006, 2007] [4, 72, 88, 4008, 4024, 4040] ⟨[(0, .arr 4024 1), (1, .int .i64 ((k1 : Nat) : Int)), (5, .int .i64 ((i : Nat) : Int)), (1001, .int .i64 1), (1002, .ref 4008 1 0), (2001, .ref 4 1 0), (2004, .arr 72 1), (2006, .arr 88 1), (2007, .int .i64 1)], [(4, .box 1 [.data (.slice (.int .i64)) ((Graph.Rows aG) : List Int), .data (.slice (.named 0)) ((Graph.Edges aG) : List Edge)]), (72, .arr 1 (.int .i64) ((BestCosts (toGraph aG)) : List Int)), (88, .arr 1 (.int .i64) ((iBestCosts (Graph.mk (toIntS (Graph.Rows aG)) (toEdgeS (Graph.Edges aG)))) : List Int)), (4008, .box 1 [.arr 4024 1, .arr 4040 1]), (4024, .arr 1 (.int .i64) (a : List Int)), (4040, .arr 1 (.named 0) ((toEdgeS (Graph.Edges aG)) : List Edge))]⟩ ?_
       refine AW.skip (AW.seq (AW.block (AW.seq (AW.wf_arr (id := 72) (ep := 1) (t := (.int .i64)) (xs := ((BestCosts (toGraph aG)) : List Int)) (by kernel_rfl) fun ha697 _ => ?_))))
       replace ha697 : ((List.length (BestCosts (toGraph aG)) : Nat) : Int) ≤ 4294967296 := ha697
       refine AW.wf_arr (id := 88) (ep := 1) (t := (.int .i64)) (xs := ((iBestCosts (Graph.mk (toIntS (Graph.Rows aG)) (toEdgeS (Graph.Edges aG)))) : List Int)) (by kernel_rfl) fun ha698 _ => ?_
       replace ha698 : ((List.length (iBestCosts (Graph.mk (toIntS (Graph.Rows aG)) (toEdgeS (Graph.Edges aG)))) : Nat) : Int) ≤ 4294967296 := ha698
       refine AW.wf_arr (id := 4024) (ep := 1) (t := (.int .i64)) (xs := (a : List Int)) (by kernel_rfl) fun ha699 _ => ?_
       replace ha699 : ((List.length a : Nat) : Int) ≤ 4294967296 := ha699
       refine AW.wf_arr (id := 4040) (ep := 1) (t := (.named 0)) (xs := ((toEdgeS (Graph.Edges aG)) : List Edge)) (by kernel_rfl) fun ha700 _ => ?_
       replace ha700 : ((List.length (toEdgeS (Graph.Edges aG)) : Nat) : Int) ≤ 4294967296 := ha700
       refine AW.r0 hC2 [0, 1, 5, 1001, 1002, 2001, 2004, 2006, 2007] [4, 72, 88, 4008, 4024, 4040] ⟨[(0, .arr 4024 1), (1, .int .i64 ((k1 : Nat) : Int)), (5, .int .i64 ((i : Nat) : Int)), (1001, .int .i64 1), (1002, .ref 4008 1 0), (2001, .ref 4 1 0), (2004, .arr 72 1), (2006, .arr 88 1), (2007, .int .i64 1)], [(4, .box 1 [.data (.slice (.int .i64)) ((Graph.Rows aG) : List Int), .data (.slice (.named 0)) ((Graph.Edges aG) : List Edge)]), (72, .arr 1 (.int .i64) ((BestCosts (toGraph aG)) : List Int)), (88, .arr 1 (.int .i64) ((iBestCosts (Graph.mk (toIntS (Graph.Rows aG)) (toEdgeS (Graph.Edges aG)))) : List Int)), (4008, .box 1 [.arr 4024 1, .arr 4040 1]), (4024, .arr 1 (.int .i64) ((List.set a i ((k1 : Nat) : Int)) : List Int)), (4040, .arr 1 (.named 0) ((toEdgeS (Graph.Edges aG)) : List Edge))]⟩ [(0 ≤ ((i : Nat) : Int) ∧ ((i : Nat) : Int) < ((List.length a : Nat) : Int))] ?_ ?_
       ·
        refine ⟨?_, trivial⟩
        ·
         first | omega | (dsimp only; omega) | (simp only [lens] at *; omega)
       refine AW.wf_arr (id := 72) (ep := 1) (t := (.int .i64)) (xs := ((BestCosts (toGraph aG)) : List Int)) (by kernel_rfl) fun ha701 _ => ?_
       replace ha701 : ((List.length (BestCosts (toGraph aG)) : Nat) : Int) ≤ 4294967296 := ha701
       refine AW.wf_arr (id := 88) (ep := 1) (t := (.int .i64)) (xs := ((iBestCosts (Graph.mk (toIntS (Graph.Rows aG)) (toEdgeS (Graph.Edges aG)))) : List Int)) (by kernel_rfl) fun ha702 _ => ?_
       replace ha702 : ((List.length (iBestCosts (Graph.mk (toIntS (Graph.Rows aG)) (toEdgeS (Graph.Edges aG)))) : Nat) : Int) ≤ 4294967296 := ha702
       refine AW.wf_arr (id := 4024) (ep := 1) (t := (.int .i64)) (xs := ((List.set a i ((k1 : Nat) : Int)) : List Int)) (by kernel_rfl) fun ha703 _ => ?_
       replace ha703 : ((List.length (List.set a i ((k1 : Nat) : Int)) : Nat) : Int) ≤ 4294967296 := ha703
       refine AW.wf_arr (id := 4040) (ep := 1) (t := (.named 0)) (xs := ((toEdgeS (Graph.Edges aG)) : List Edge)) (by kernel_rfl) fun ha704 _ => ?_
       replace ha704 : ((List.length (toEdgeS (Graph.Edges aG)) : Nat) : Int) ≤ 4294967296 := ha704
       refine AW.r0 hC2 [0, 1, 5, 1001, 1002, 2001, 2004, 2006, 2007] [4, 72, 88, 4008, 4024, 4040] ⟨[(0, .arr 4024 1), (1, .int .i64 ((k1 + 1 : Nat) : Int)), (5, .int .i64 ((i : Nat) : Int)), (1001, .int .i64 1), (1002, .ref 4008 1 0), (2001, .ref 4 1 0), (2004, .arr 72 1), (2006, .arr 88 1), (2007, .int .i64 1)], [(4, .box 1 [.data (.slice (.int .i64)) ((Graph.Rows aG) : List Int), .data (.slice (.named 0)) ((Graph.Edges aG) : List Edge)]), (72, .arr 1 (.int .i64) ((BestCosts (toGraph aG)) : List Int)), (88, .arr 1 (.int .i64) ((iBestCosts (Graph.mk (toIntS (Graph.Rows aG)) (toEdgeS (Graph.Edges aG)))) : List Int)), (4008, .box 1 [.arr 4024 1, .arr 4040 1]), (4024, .arr 1 (.int .i64) ((List.set a i ((k1 : Nat) : Int)) : List Int)), (4040, .arr 1 (.named 0) ((toEdgeS (Graph.Edges aG)) : List Edge))]⟩ [(-9223372036854775808 ≤ ((k1 + 1 : Nat) : Int) ∧ ((k1 + 1 : Nat) : Int) ≤ 9223372036854775807)] ?_ ?_
       ·
        refine ⟨?_, trivial⟩
        ·
         first | omega | (dsimp only; omega) | (simp only [lens] at *; omega)
       refine AW.wf_arr (id := 72) (ep := 1) (t := (.int .i64)) (xs := ((BestCosts (toGraph aG)) : List Int)) (by kernel_rfl) fun ha705 _ => ?_
       replace ha705 : ((List.length (BestCosts (toGraph aG)) : Nat) : Int) ≤ 4294967296 := ha705
       refine AW.wf_arr (id := 88) (ep := 1) (t := (.int .i64)) (xs := ((iBestCosts (Graph.mk (toIntS (Graph.Rows aG)) (toEdgeS (Graph.Edges aG)))) : List Int)) (by kernel_rfl) fun ha706 _ => ?_
       replace ha706 : ((List.length (iBestCosts (Graph.mk (toIntS (Graph.Rows aG)) (toEdgeS (Graph.Edges aG)))) : Nat) : Int) ≤ 4294967296 := ha706
       refine AW.wf_arr (id := 4024) (ep := 1) (t := (.int .i64)) (xs := ((List.set a i ((k1 : Nat) : Int)) : List Int)) (by kernel_rfl) fun ha707 _ => ?_
       replace ha707 : ((List.length (List.set a i ((k1 : Nat) : Int)) : Nat) : Int) ≤ 4294967296 := ha707
       refine AW.wf_arr (id := 4040) (ep := 1) (t := (.named 0)) (xs := ((toEdgeS (Graph.Edges aG)) : List Edge)) (by kernel_rfl) fun ha708 _ => ?_
       replace ha708 : ((List.length (toEdgeS (Graph.Edges aG)) : Nat) : Int) ≤ 4294967296 := ha708
       refine AW.r0 hC2 [0, 1, 5, 1001, 1002, 2001, 2004, 2006, 2007] [4, 72, 88, 4008, 4024, 4040] ⟨[(0, .arr 4024 1), (1, .int .i64 ((k1 + 1 : Nat) : Int)), (5, .int .i64 ((i + 1 : Nat) : Int)), (1001, .int .i64 1), (1002, .ref 4008 1 0), (2001, .ref 4 1 0), (2004, .arr 72 1), (2006, .arr 88 1), (2007, .int .i64 1)], [(4, .box 1 [.data (.slice (.int .i64)) ((Graph.Rows aG) : List Int), .data (.slice (.named 0)) ((Graph.Edges aG) : List Edge)]), (72, .arr 1 (.int .i64) ((BestCosts (toGraph aG)) : List Int)), (88, .arr 1 (.int .i64) ((iBestCosts (Graph.mk (toIntS (Graph.Rows aG)) (toEdgeS (Graph.Edges aG)))) : List Int)), (4008, .box 1 [.arr 4024 1, .arr 4040 1]), (4024, .arr 1 (.int .i64) ((List.set a i ((k1 : Nat) : Int)) : List Int)), (4040, .arr 1 (.named 0) ((toEdgeS (Graph.Edges aG)) : List Edge))]⟩ [(-9223372036854775808 ≤ ((i + 1 : Nat) : Int) ∧ ((i + 1 : Nat) : Int) ≤ 9223372036854775807)] ?_ ?_
       ·
        refine ⟨?_, trivial⟩
        ·
         first | omega | (dsimp only; omega) | (simp only [lens] at *; omega)
       refine AW.back (x := (k1, i, a)) (k1 + 1, i + 1, (List.set a i ((k1 : Nat) : Int))) (by kernel_rfl) ⟨?_, k690q, ?_, e696⟩ ?_
       ·
        show (1 ≤ (k1 + 1) ∧ (k1 + 1) ≤ 1 + 1 * (i + 1)) ∧ ((i + 1) ≤ List.length (List.set a i ((k1 : Nat) : Int)) ∧ List.length (List.set a i ((k1 : Nat) : Int)) ≤ 4294967296)
        simp only [List.length_set] at *
        omega
       ·
        show (List.length (List.set a i ((k1 : Nat) : Int))) - (i + 1) < k690q
        first | omega | (simp only [lens]; omega)
       ·
        show (List.length (List.set a i ((k1 : Nat) : Int))) - (i + 1) < (List.length a) - i
        first | omega | (simp only [lens]; omega)
      ·
       intro h709
       have h709q : ¬ (((i : Nat) : Int) < ((List.length a : Nat) : Int)) := (of_decide_eq_false h709)
       have e710 := e689.trans (Go.Am.bif_f h709)
       refine AW.kp [1, 1001, 1002, 2001, 2004, 2006, 2007] [4, 72, 88, 4008, 4024, 4040] ⟨[(1, .int .i64 ((k1 : Nat) : Int)), (1001, .int .i64 1), (1002, .ref 4008 1 0), (2001, .ref 4 1 0), (2004, .arr 72 1), (2006, .arr 88 1), (2007, .int .i64 1)], [(4, .box 1 [.data (.slice (.int .i64)) ((Graph.Rows aG) : List Int), .data (.slice (.named 0)) ((Graph.Edges aG) : List Edge)]), (72, .arr 1 (.int .i64) ((BestCosts (toGraph aG)) : List Int)), (88, .arr 1 (.int .i64) ((iBestCosts (Graph.mk (toIntS (Graph.Rows aG)) (toEdgeS (Graph.Edges aG)))) : List Int)), (4008, .box 1 [.arr 4024 1, .arr 4040 1]), (4024, .arr 1 (.int .i64) (a : List Int)), (4040, .arr 1 (.named 0) ((toEdgeS (Graph.Edges aG)) : List Edge))]⟩ ?_
       refine AW.exit ?_
       refine AW.meet (k1, a) (by kernel_rfl) ⟨?_, e710⟩
       show (1 ≤ k1 ∧ k1 ≤ 4294967297) ∧ List.length a ≤ 4294967296
       omega
    ·
     intro x hR
     obtain ⟨k1, a⟩ := x
     obtain ⟨hJ0, e711⟩ := hR
     replace hJ0 : (1 ≤ k1 ∧ k1 ≤ 4294967297) ∧ List.length a ≤ 4294967296 := hJ0
     have e712 := e48.trans (Go.Am.then_eq e711)
     refine AW.seq (AW.wf_arr (id := 72) (ep := 1) (t := (.int .i64)) (xs := ((BestCosts (toGraph aG)) : List Int)) (by kernel_rfl) fun ha713 _ => ?_)
     replace ha713 : ((List.length (BestCosts (toGraph aG)) : Nat) : Int) ≤ 4294967296 := ha713
     refine AW.wf_arr (id := 88) (ep := 1) (t := (.int .i64)) (xs := ((iBestCosts (Graph.mk (toIntS (Graph.Rows aG)) (toEdgeS (Graph.Edges aG)))) : List Int)) (by kernel_rfl) fun ha714 _ => ?_
     replace ha714 : ((List.length (iBestCosts (Graph.mk (toIntS (Graph.Rows aG)) (toEdgeS (Graph.Edges aG)))) : Nat) : Int) ≤ 4294967296 := ha714
     refine AW.wf_arr (id := 4024) (ep := 1) (t := (.int .i64)) (xs := (a : List Int)) (by kernel_rfl) fun ha715 _ => ?_
     replace ha715 : ((List.length a : Nat) : Int) ≤ 4294967296 := ha715
     refine AW.wf_arr (id := 4040) (ep := 1) (t := (.named 0)) (xs := ((toEdgeS (Graph.Edges aG)) : List Edge)) (by kernel_rfl) fun ha716 _ => ?_
     replace ha716 : ((List.length (toEdgeS (Graph.Edges aG)) : Nat) : Int) ≤ 4294967296 := ha716
     refine AW.r1 hC2 [4, 1001, 1002, 2001, 2004, 2006, 2007] [4, 72, 88, 4008, 4024, 4040] ⟨[(4, .int .i64 ((k1 : Nat) : Int)), (1001, .int .i64 1), (1002, .ref 4008 1 0), (2001, .ref 4 1 0), (2004, .arr 72 1), (2006, .arr 88 1), (2007, .int .i64 1)], [(4, .box 1 [.data (.slice (.int .i64)) ((Graph.Rows aG) : List Int), .data (.slice (.named 0)) ((Graph.Edges aG) : List Edge)]), (72, .arr 1 (.int .i64) ((BestCosts (toGraph aG)) : List Int)), (88, .arr 1 (.int .i64) ((iBestCosts (Graph.mk (toIntS (Graph.Rows aG)) (toEdgeS (Graph.Edges aG)))) : List Int)), (4008, .box 1 [.arr 4024 1, .arr 4040 1]), (4024, .arr 1 (.int .i64) (a : List Int)), (4040, .arr 1 (.named 0) ((toEdgeS (Graph.Edges aG)) : List Edge))]⟩ ?_
     refine AW.ret ?_
     refine ⟨[.int .i64 ((k1 : Nat) : Int)], by kernel_rfl, ?_⟩
     refine AWO.keep [1, 2, 8, 1001, 1004, 1006, 1007] [4, 72, 88, 4008, 4024, 4040] ⟨[(1, .int .i64 1), (2, .ref 4008 1 0), (8, .int .i64 ((k1 : Nat) : Int)), (1001, .ref 4 1 0), (1004, .arr 72 1), (1006, .arr 88 1), (1007, .int .i64 1)], [(4, .box 1 [.data (.slice (.int .i64)) ((Graph.Rows aG) : List Int), .data (.slice (.named 0)) ((Graph.Edges aG) : List Edge)]), (72, .arr 1 (.int .i64) ((BestCosts (toGraph aG)) : List Int)), (88, .arr 1 (.int .i64) ((iBestCosts (Graph.mk (toIntS (Graph.Rows aG)) (toEdgeS (Graph.Edges aG)))) : List Int)), (4008, .box 1 [.arr 4024 1, .arr 4040 1]), (4024, .arr 1 (.int .i64) (a : List Int)), (4040, .arr 1 (.named 0) ((toEdgeS (Graph.Edges aG)) : List Edge))]⟩ (by kernel_rfl) ?_
     refine AWO.run hC1 false [] [4] [] [1, 2, 1001, 1004, 1006, 1007] [4, 72, 88, 4008, 4024, 4040]
      ⟨[(1, .int .i64 ((k1 : Nat) : Int)), (2, .ref 4008 1 0), (1001, .ref 4 1 0), (1004, .arr 72 1), (1006, .arr 88 1), (1007, .int .i64 1)], [(4, .box 1 [.data (.slice (.int .i64)) ((Graph.Rows aG) : List Int), .data (.slice (.named 0)) ((Graph.Edges aG) : List Edge)]), (72, .arr 1 (.int .i64) ((BestCosts (toGraph aG)) : List Int)), (88, .arr 1 (.int .i64) ((iBestCosts (Graph.mk (toIntS (Graph.Rows aG)) (toEdgeS (Graph.Edges aG)))) : List Int)), (4008, .box 1 [.arr 4024 1, .arr 4040 1]), (4024, .arr 1 (.int .i64) (a : List Int)), (4040, .arr 1 (.named 0) ((toEdgeS (Graph.Edges aG)) : List Edge))]⟩
      [] (by rfl) (by kernel_rfl) ?_ ?_
     ·
      exact trivial
     refine AWO.nil ?_
     refine AW.seq (AW.wf_arr (id := 72) (ep := 1) (t := (.int .i64)) (xs := ((BestCosts (toGraph aG)) : List Int)) (by kernel_rfl) fun ha717 _ => ?_)
     replace ha717 : ((List.length (BestCosts (toGraph aG)) : Nat) : Int) ≤ 4294967296 := ha717
     refine AW.wf_arr (id := 88) (ep := 1) (t := (.int .i64)) (xs := ((iBestCosts (Graph.mk (toIntS (Graph.Rows aG)) (toEdgeS (Graph.Edges aG)))) : List Int)) (by kernel_rfl) fun ha718 _ => ?_
     replace ha718 : ((List.length (iBestCosts (Graph.mk (toIntS (Graph.Rows aG)) (toEdgeS (Graph.Edges aG)))) : Nat) : Int) ≤ 4294967296 := ha718
     refine AW.wf_arr (id := 4024) (ep := 1) (t := (.int .i64)) (xs := (a : List Int)) (by kernel_rfl) fun ha719 _ => ?_
     replace ha719 : ((List.length a : Nat) : Int) ≤ 4294967296 := ha719
     refine AW.wf_arr (id := 4040) (ep := 1) (t := (.named 0)) (xs := ((toEdgeS (Graph.Edges aG)) : List Edge)) (by kernel_rfl) fun ha720 _ => ?_
     replace ha720 : ((List.length (toEdgeS (Graph.Edges aG)) : Nat) : Int) ≤ 4294967296 := ha720
     refine AW.regionO [0, 1, 2, 3, 4] (by rfl) ?_
     refine AWO.run hC1 false [] [0, 1, 2] [3, 4] [1, 10, 11, 1001, 1004, 1006, 1007] [4, 72, 88, 4040]
      ⟨[(1, .int .i64 ((k1 : Nat) : Int)), (10, .arr 4040 1), (11, .int .i64 ((k1 : Nat) : Int)), (1001, .ref 4 1 0), (1004, .arr 72 1), (1006, .arr 88 1), (1007, .int .i64 1)], [(4, .box 1 [.data (.slice (.int .i64)) ((Graph.Rows aG) : List Int), .data (.slice (.named 0)) ((Graph.Edges aG) : List Edge)]), (72, .arr 1 (.int .i64) ((BestCosts (toGraph aG)) : List Int)), (88, .arr 1 (.int .i64) ((iBestCosts (Graph.mk (toIntS (Graph.Rows aG)) (toEdgeS (Graph.Edges aG)))) : List Int)), (4040, .arr 1 (.named 0) ((toEdgeS (Graph.Edges aG)) : List Edge))]⟩
      [] (by rfl) (by kernel_rfl) ?_ ?_
     ·
      exact trivial
     refine AWO.call hC1.ty (vs := [.arr 4040 1, .int .i64 ((k1 : Nat) : Int)]) (caps := []) (by rfl) rfl (.inl rfl) (by decide) (by kernel_rfl) (by kernel_rfl) Try.func70 (by kernel_rfl) rfl (by kernel_rfl) ?_
     intro o2
     refine AW.kp [0, 1, 1001, 2001, 2004, 2006, 2007] [4, 72, 88, 4040] ⟨[(0, .arr 4040 1), (1, .int .i64 ((k1 : Nat) : Int)), (1001, .int .i64 ((k1 : Nat) : Int)), (2001, .ref 4 1 0), (2004, .arr 72 1), (2006, .arr 88 1), (2007, .int .i64 1)], [(4, .box 1 [.data (.slice (.int .i64)) ((Graph.Rows aG) : List Int), .data (.slice (.named 0)) ((Graph.Edges aG) : List Edge)]), (72, .arr 1 (.int .i64) ((BestCosts (toGraph aG)) : List Int)), (88, .arr 1 (.int .i64) ((iBestCosts (Graph.mk (toIntS (Graph.Rows aG)) (toEdgeS (Graph.Edges aG)))) : List Int)), (4040, .arr 1 (.named 0) ((toEdgeS (Graph.Edges aG)) : List Edge))]⟩ ?_
     refine AW.seq (AW.wf_arr (id := 72) (ep := 1) (t := (.int .i64)) (xs := ((BestCosts (toGraph aG)) : List Int)) (by kernel_rfl) fun ha846 _ => ?_)
     replace ha846 : ((List.length (BestCosts (toGraph aG)) : Nat) : Int) ≤ 4294967296 := ha846
     refine AW.wf_arr (id := 88) (ep := 1) (t := (.int .i64)) (xs := ((iBestCosts (Graph.mk (toIntS (Graph.Rows aG)) (toEdgeS (Graph.Edges aG)))) : List Int)) (by kernel_rfl) fun ha847 _ => ?_
     replace ha847 : ((List.length (iBestCosts (Graph.mk (toIntS (Graph.Rows aG)) (toEdgeS (Graph.Edges aG)))) : Nat) : Int) ≤ 4294967296 := ha847
     refine AW.wf_arr (id := 4040) (ep := 1) (t := (.named 0)) (xs := ((toEdgeS (Graph.Edges aG)) : List Edge)) (by kernel_rfl) fun ha848 _ => ?_
     replace ha848 : ((List.length (toEdgeS (Graph.Edges aG)) : Nat) : Int) ≤ 4294967296 := ha848
     refine AW.r1 hC2 [0, 1, 1001, 2001, 2004, 2006, 2007] [4, 72, 88, 4040] ⟨[(0, .arr 4040 1), (1, .int .i64 ((k1 : Nat) : Int)), (1001, .int .i64 ((k1 : Nat) : Int)), (2001, .ref 4 1 0), (2004, .arr 72 1), (2006, .arr 88 1), (2007, .int .i64 1)], [(4, .box 1 [.data (.slice (.int .i64)) ((Graph.Rows aG) : List Int), .data (.slice (.named 0)) ((Graph.Edges aG) : List Edge)]), (72, .arr 1 (.int .i64) ((BestCosts (toGraph aG)) : List Int)), (88, .arr 1 (.int .i64) ((iBestCosts (Graph.mk (toIntS (Graph.Rows aG)) (toEdgeS (Graph.Edges aG)))) : List Int)), (4040, .arr 1 (.named 0) ((toEdgeS (Graph.Edges aG)) : List Edge))]⟩ ?_
     refine AW.seq (AW.seq (AW.wf_arr (id := 72) (ep := 1) (t := (.int .i64)) (xs := ((BestCosts (toGraph aG)) : List Int)) (by kernel_rfl) fun ha849 _ => ?_))
     replace ha849 : ((List.length (BestCosts (toGraph aG)) : Nat) : Int) ≤ 4294967296 := ha849
     refine AW.wf_arr (id := 88) (ep := 1) (t := (.int .i64)) (xs := ((iBestCosts (Graph.mk (toIntS (Graph.Rows aG)) (toEdgeS (Graph.Edges aG)))) : List Int)) (by kernel_rfl) fun ha850 _ => ?_
     replace ha850 : ((List.length (iBestCosts (Graph.mk (toIntS (Graph.Rows aG)) (toEdgeS (Graph.Edges aG)))) : Nat) : Int) ≤ 4294967296 := ha850
     refine AW.wf_arr (id := 4040) (ep := 1) (t := (.named 0)) (xs := ((toEdgeS (Graph.Edges aG)) : List Edge)) (by kernel_rfl) fun ha851 _ => ?_
     replace ha851 : ((List.length (toEdgeS (Graph.Edges aG)) : Nat) : Int) ≤ 4294967296 := ha851
     refine AW.r1 hC2 [0, 1, 5, 1001, 2001, 2004, 2006, 2007] [4, 72, 88, 4040] ⟨[(0, .arr 4040 1), (1, .int .i64 ((k1 : Nat) : Int)), (5, .int .i64 0), (1001, .int .i64 ((k1 : Nat) : Int)), (2001, .ref 4 1 0), (2004, .arr 72 1), (2006, .arr 88 1), (2007, .int .i64 1)], [(4, .box 1 [.data (.slice (.int .i64)) ((Graph.Rows aG) : List Int), .data (.slice (.named 0)) ((Graph.Edges aG) : List Edge)]), (72, .arr 1 (.int .i64) ((BestCosts (toGraph aG)) : List Int)), (88, .arr 1 (.int .i64) ((iBestCosts (Graph.mk (toIntS (Graph.Rows aG)) (toEdgeS (Graph.Edges aG)))) : List Int)), (4040, .arr 1 (.named 0) ((toEdgeS (Graph.Edges aG)) : List Edge))]⟩ ?_
     refine AW.cutQ (α := Nat) (fun x => ⟨[(1, .int .i64 ((x : Nat) : Int)), (1001, .int .i64 ((k1 : Nat) : Int)), (2001, .ref 4 1 0), (2004, .arr 72 1), (2006, .arr 88 1), (2007, .int .i64 1)], [(4, .box 1 [.data (.slice (.int .i64)) ((Graph.Rows aG) : List Int), .data (.slice (.named 0)) ((Graph.Edges aG) : List Edge)]), (72, .arr 1 (.int .i64) ((BestCosts (toGraph aG)) : List Int)), (88, .arr 1 (.int .i64) ((iBestCosts (Graph.mk (toIntS (Graph.Rows aG)) (toEdgeS (Graph.Edges aG)))) : List Int))]⟩) (fun x => (1 ≤ x ∧ x ≤ 17179869185) ∧ (FnExactBestCosts_l1 ((List.length (toEdgeS (Graph.Edges aG))) - 0 + 1) k1 0 (toEdgeS (Graph.Edges aG))) = x) ?_ ?_
     ·
      skip
      refine AW.block (AW.loop (α := Nat × Nat × (List Edge)) (fun x => ⟨[(0, .arr 4040 1), (1, .int .i64 ((x.1 : Nat) : Int)), (5, .int .i64 ((x.2.1 : Nat) : Int)), (1001, .int .i64 ((k1 : Nat) : Int)), (2001, .ref 4 1 0), (2004, .arr 72 1), (2006, .arr 88 1), (2007, .int .i64 1)], [(4, .box 1 [.data (.slice (.int .i64)) ((Graph.Rows aG) : List Int), .data (.slice (.named 0)) ((Graph.Edges aG) : List Edge)]), (72, .arr 1 (.int .i64) ((BestCosts (toGraph aG)) : List Int)), (88, .arr 1 (.int .i64) ((iBestCosts (Graph.mk (toIntS (Graph.Rows aG)) (toEdgeS (Graph.Edges aG)))) : List Int)), (4040, .arr 1 (.named 0) (x.2.2 : List Edge))]⟩) (fun x => ((1 ≤ x.1 ∧ x.1 ≤ 4294967297 + 3 * x.2.1) ∧ (x.2.1 ≤ List.length x.2.2 ∧ List.length x.2.2 ≤ 4294967296)) ∧ ∃ k, (List.length x.2.2) - x.2.1 < k ∧ (FnExactBestCosts_l1 ((List.length (toEdgeS (Graph.Edges aG))) - 0 + 1) k1 0 (toEdgeS (Graph.Edges aG))) = FnExactBestCosts_l1 k x.1 x.2.1 x.2.2) (fun x => (List.length x.2.2) - x.2.1) (k1, 0, (toEdgeS (Graph.Edges aG))) (by kernel_rfl) ⟨?_, _, Nat.lt_succ_self _, rfl⟩ ?_)
      ·
       show (1 ≤ k1 ∧ k1 ≤ 4294967297 + 3 * 0) ∧ (0 ≤ List.length (toEdgeS (Graph.Edges aG)) ∧ List.length (toEdgeS (Graph.Edges aG)) ≤ 4294967296)
       exact ⟨⟨by omega, by omega⟩, by omega, by omega⟩
      ·
       intro x hR
       obtain ⟨k2, i, a1⟩ := x
       obtain ⟨hI1, k938, hk936, e937⟩ := hR
       replace hI1 : (1 ≤ k2 ∧ k2 ≤ 4294967297 + 3 * i) ∧ (i ≤ List.length a1 ∧ List.length a1 ≤ 4294967296) := hI1
       replace hk936 : (List.length a1) - i < k938 := hk936
       obtain ⟨k938q, rfl⟩ : ∃ k, k938 = k + 1 := ⟨k938 - 1, by omega⟩
       refine AW.seq (AW.seq (AW.wf_arr (id := 72) (ep := 1) (t := (.int .i64)) (xs := ((BestCosts (toGraph aG)) : List Int)) (by kernel_rfl) fun ha939 _ => ?_))
       replace ha939 : ((List.length (BestCosts (toGraph aG)) : Nat) : Int) ≤ 4294967296 := ha939
       refine AW.wf_arr (id := 88) (ep := 1) (t := (.int .i64)) (xs := ((iBestCosts (Graph.mk (toIntS (Graph.Rows aG)) (toEdgeS (Graph.Edges aG)))) : List Int)) (by kernel_rfl) fun ha940 _ => ?_
       replace ha940 : ((List.length (iBestCosts (Graph.mk (toIntS (Graph.Rows aG)) (toEdgeS (Graph.Edges aG)))) : Nat) : Int) ≤ 4294967296 := ha940
       refine AW.wf_arr (id := 4040) (ep := 1) (t := (.named 0)) (xs := (a1 : List Edge)) (by kernel_rfl) fun ha941 _ => ?_
       replace ha941 : ((List.length a1 : Nat) : Int) ≤ 4294967296 := ha941
       refine AW.r1 hC2 [0, 1, 5, 9, 1001, 2001, 2004, 2006, 2007] [4, 72, 88, 4040] ⟨[(0, .arr 4040 1), (1, .int .i64 ((k2 : Nat) : Int)), (5, .int .i64 ((i : Nat) : Int)), (9, .bool (decide (((i : Nat) : Int) < ((List.length a1 : Nat) : Int)))), (1001, .int .i64 ((k1 : Nat) : Int)), (2001, .ref 4 1 0), (2004, .arr 72 1), (2006, .arr 88 1), (2007, .int .i64 1)], [(4, .box 1 [.data (.slice (.int .i64)) ((Graph.Rows aG) : List Int), .data (.slice (.named 0)) ((Graph.Edges aG) : List Edge)]), (72, .arr 1 (.int .i64) ((BestCosts (toGraph aG)) : List Int)), (88, .arr 1 (.int .i64) ((iBestCosts (Graph.mk (toIntS (Graph.Rows aG)) (toEdgeS (Graph.Edges aG)))) : List Int)), (4040, .arr 1 (.named 0) (a1 : List Edge))]⟩ ?_
       refine AW.cd (decide (((i : Nat) : Int) < ((List.length a1 : Nat) : Int))) ?_ ?_
       ·
        intro h942
        have h942q : ((i : Nat) : Int) < ((List.length a1 : Nat) : Int) := (of_decide_eq_true h942)
        have e943 := e937.trans (Go.Am.bif_t h942)
        refine AW.kp [0, 1, 5, 1001, 2001, 2004, 2006, 2007] [4, 72, 88, 4040] ⟨[(0, .arr 4040 1), (1, .int .i64 ((k2 : Nat) : Int)), (5, .int .i64 ((i : Nat) : Int)), (1001, .int .i64 ((k1 : Nat) : Int)), (2001, .ref 4 1 0), (2004, .arr 72 1), (2006, .arr 88 1), (2007, .int .i64 1)], [(4, .box 1 [.data (.slice (.int .i64)) ((Graph.Rows aG) : List Int), .data (.slice (.named 0)) ((Graph.Edges aG) : List Edge)]), (72, .arr 1 (.int .i64) ((BestCosts (toGraph aG)) : List Int)), (88, .arr 1 (.int .i64) ((iBestCosts (Graph.mk (toIntS (Graph.Rows aG)) (toEdgeS (Graph.Edges aG)))) : List Int)), (4040, .arr 1 (.named 0) (a1 : List Edge))]⟩ ?_
        refine AW.skip (AW.seq (AW.block (AW.seq (AW.wf_arr (id := 72) (ep := 1) (t := (.int .i64)) (xs := ((BestCosts (toGraph aG)) : List Int)) (by kernel_rfl) fun ha944 _ => ?_))))
        replace ha944 : ((List.length (BestCosts (toGraph aG)) : Nat) : Int) ≤ 4294967296 := ha944
        refine AW.wf_arr (id := 88) (ep := 1) (t := (.int .i64)) (xs := ((iBestCosts (Graph.mk (toIntS (Graph.Rows aG)) (toEdgeS (Graph.Edges aG)))) : List Int)) (by kernel_rfl) fun ha945 _ => ?_
        replace ha945 : ((List.length (iBestCosts (Graph.mk (toIntS (Graph.Rows aG)) (toEdgeS (Graph.Edges aG)))) : Nat) : Int) ≤ 4294967296 := ha945
        refine AW.wf_arr (id := 4040) (ep := 1) (t := (.named 0)) (xs := (a1 : List Edge)) (by kernel_rfl) fun ha946 _ => ?_
        replace ha946 : ((List.length a1 : Nat) : Int) ≤ 4294967296 := ha946
        refine AW.r0 hC2 [0, 1, 5, 1001, 2001, 2004, 2006, 2007] [4, 72, 88, 4040] ⟨[(0, .arr 4040 1), (1, .int .i64 ((k2 : Nat) : Int)), (5, .int .i64 ((i : Nat) : Int)), (1001, .int .i64 ((k1 : Nat) : Int)), (2001, .ref 4 1 0), (2004, .arr 72 1), (2006, .arr 88 1), (2007, .int .i64 1)], [(4, .box 1 [.data (.slice (.int .i64)) ((Graph.Rows aG) : List Int), .data (.slice (.named 0)) ((Graph.Edges aG) : List Edge)]), (72, .arr 1 (.int .i64) ((BestCosts (toGraph aG)) : List Int)), (88, .arr 1 (.int .i64) ((iBestCosts (Graph.mk (toIntS (Graph.Rows aG)) (toEdgeS (Graph.Edges aG)))) : List Int)), (4040, .arr 1 (.named 0) ((List.set a1 i (Edge.mk ((k2 : Nat) : Int) (Edge.B (List.getD a1 i Edge.zero)) (Edge.Den (List.getD a1 i Edge.zero)))) : List Edge))]⟩ [(0 ≤ ((i : Nat) : Int) ∧ ((i : Nat) : Int) < ((List.length a1 : Nat) : Int))] ?_ ?_
        ·
         refine ⟨?_, trivial⟩
         ·
          first | omega | (dsimp only; omega) | (simp only [lens] at *; omega)
        refine AW.seq (AW.wf_arr (id := 72) (ep := 1) (t := (.int .i64)) (xs := ((BestCosts (toGraph aG)) : List Int)) (by kernel_rfl) fun ha947 _ => ?_)
        replace ha947 : ((List.length (BestCosts (toGraph aG)) : Nat) : Int) ≤ 4294967296 := ha947
        refine AW.wf_arr (id := 88) (ep := 1) (t := (.int .i64)) (xs := ((iBestCosts (Graph.mk (toIntS (Graph.Rows aG)) (toEdgeS (Graph.Edges aG)))) : List Int)) (by kernel_rfl) fun ha948 _ => ?_
        replace ha948 : ((List.length (iBestCosts (Graph.mk (toIntS (Graph.Rows aG)) (toEdgeS (Graph.Edges aG)))) : Nat) : Int) ≤ 4294967296 := ha948
        refine AW.wf_arr (id := 4040) (ep := 1) (t := (.named 0)) (xs := ((List.set a1 i (Edge.mk ((k2 : Nat) : Int) (Edge.B (List.getD a1 i Edge.zero)) (Edge.Den (List.getD a1 i Edge.zero)))) : List Edge)) (by kernel_rfl) fun ha949 _ => ?_
        replace ha949 : ((List.length (List.set a1 i (Edge.mk ((k2 : Nat) : Int) (Edge.B (List.getD a1 i Edge.zero)) (Edge.Den (List.getD a1 i Edge.zero)))) : Nat) : Int) ≤ 4294967296 := ha949
        refine AW.r0 hC2 [0, 1, 5, 1001, 2001, 2004, 2006, 2007] [4, 72, 88, 4040] ⟨[(0, .arr 4040 1), (1, .int .i64 ((k2 + 1 : Nat) : Int)), (5, .int .i64 ((i : Nat) : Int)), (1001, .int .i64 ((k1 : Nat) : Int)), (2001, .ref 4 1 0), (2004, .arr 72 1), (2006, .arr 88 1), (2007, .int .i64 1)], [(4, .box 1 [.data (.slice (.int .i64)) ((Graph.Rows aG) : List Int), .data (.slice (.named 0)) ((Graph.Edges aG) : List Edge)]), (72, .arr 1 (.int .i64) ((BestCosts (toGraph aG)) : List Int)), (88, .arr 1 (.int .i64) ((iBestCosts (Graph.mk (toIntS (Graph.Rows aG)) (toEdgeS (Graph.Edges aG)))) : List Int)), (4040, .arr 1 (.named 0) ((List.set a1 i (Edge.mk ((k2 : Nat) : Int) (Edge.B (List.getD a1 i Edge.zero)) (Edge.Den (List.getD a1 i Edge.zero)))) : List Edge))]⟩ [(-9223372036854775808 ≤ ((k2 + 1 : Nat) : Int) ∧ ((k2 + 1 : Nat) : Int) ≤ 9223372036854775807)] ?_ ?_
        ·
         refine ⟨?_, trivial⟩
         ·
          first | omega | (dsimp only; omega) | (simp only [lens] at *; omega)
        refine AW.seq (AW.wf_arr (id := 72) (ep := 1) (t := (.int .i64)) (xs := ((BestCosts (toGraph aG)) : List Int)) (by kernel_rfl) fun ha950 _ => ?_)
        replace ha950 : ((List.length (BestCosts (toGraph aG)) : Nat) : Int) ≤ 4294967296 := ha950
        refine AW.wf_arr (id := 88) (ep := 1) (t := (.int .i64)) (xs := ((iBestCosts (Graph.mk (toIntS (Graph.Rows aG)) (toEdgeS (Graph.Edges aG)))) : List Int)) (by kernel_rfl) fun ha951 _ => ?_
        replace ha951 : ((List.length (iBestCosts (Graph.mk (toIntS (Graph.Rows aG)) (toEdgeS (Graph.Edges aG)))) : Nat) : Int) ≤ 4294967296 := ha951
        refine AW.wf_arr (id := 4040) (ep := 1) (t := (.named 0)) (xs := ((List.set a1 i (Edge.mk ((k2 : Nat) : Int) (Edge.B (List.getD a1 i Edge.zero)) (Edge.Den (List.getD a1 i Edge.zero)))) : List Edge)) (by kernel_rfl) fun ha952 _ => ?_
        replace ha952 : ((List.length (List.set a1 i (Edge.mk ((k2 : Nat) : Int) (Edge.B (List.getD a1 i Edge.zero)) (Edge.Den (List.getD a1 i Edge.zero)))) : Nat) : Int) ≤ 4294967296 := ha952
        refine AW.r0 hC2 [0, 1, 5, 1001, 2001, 2004, 2006, 2007] [4, 72, 88, 4040] ⟨[(0, .arr 4040 1), (1, .int .i64 ((k2 + 1 : Nat) : Int)), (5, .int .i64 ((i : Nat) : Int)), (1001, .int .i64 ((k1 : Nat) : Int)), (2001, .ref 4 1 0), (2004, .arr 72 1), (2006, .arr 88 1), (2007, .int .i64 1)], [(4, .box 1 [.data (.slice (.int .i64)) ((Graph.Rows aG) : List Int), .data (.slice (.named 0)) ((Graph.Edges aG) : List Edge)]), (72, .arr 1 (.int .i64) ((BestCosts (toGraph aG)) : List Int)), (88, .arr 1 (.int .i64) ((iBestCosts (Graph.mk (toIntS (Graph.Rows aG)) (toEdgeS (Graph.Edges aG)))) : List Int)), (4040, .arr 1 (.named 0) ((List.set (List.set a1 i (Edge.mk ((k2 : Nat) : Int) (Edge.B (List.getD a1 i Edge.zero)) (Edge.Den (List.getD a1 i Edge.zero)))) i (Edge.mk (Edge.A (List.getD (List.set a1 i (Edge.mk ((k2 : Nat) : Int) (Edge.B (List.getD a1 i Edge.zero)) (Edge.Den (List.getD a1 i Edge.zero)))) i Edge.zero)) ((k2 + 1 : Nat) : Int) (Edge.Den (List.getD (List.set a1 i (Edge.mk ((k2 : Nat) : Int) (Edge.B (List.getD a1 i Edge.zero)) (Edge.Den (List.getD a1 i Edge.zero)))) i Edge.zero)))) : List Edge))]⟩ [(0 ≤ ((i : Nat) : Int) ∧ ((i : Nat) : Int) < ((List.length (List.set a1 i (Edge.mk ((k2 : Nat) : Int) (Edge.B (List.getD a1 i Edge.zero)) (Edge.Den (List.getD a1 i Edge.zero)))) : Nat) : Int))] ?_ ?_
        ·
         refine ⟨?_, trivial⟩
         ·
          first | omega | (dsimp only; omega) | (simp only [lens] at *; omega)
        refine AW.seq (AW.wf_arr (id := 72) (ep := 1) (t := (.int .i64)) (xs := ((BestCosts (toGraph aG)) : List Int)) (by kernel_rfl) fun ha953 _ => ?_)
        replace ha953 : ((List.length (BestCosts (toGraph aG)) : Nat) : Int) ≤ 4294967296 := ha953
        refine AW.wf_arr (id := 88) (ep := 1) (t := (.int .i64)) (xs := ((iBestCosts (Graph.mk (toIntS (Graph.Rows aG)) (toEdgeS (Graph.Edges aG)))) : List Int)) (by kernel_rfl) fun ha954 _ => ?_
        replace ha954 : ((List.length (iBestCosts (Graph.mk (toIntS (Graph.Rows aG)) (toEdgeS (Graph.Edges aG)))) : Nat) : Int) ≤ 4294967296 := ha954
        refine AW.wf_arr (id := 4040) (ep := 1) (t := (.named 0)) (xs := ((List.set (List.set a1 i (Edge.mk ((k2 : Nat) : Int) (Edge.B (List.getD a1 i Edge.zero)) (Edge.Den (List.getD a1 i Edge.zero)))) i (Edge.mk (Edge.A (List.getD (List.set a1 i (Edge.mk ((k2 : Nat) : Int) (Edge.B (List.getD a1 i Edge.zero)) (Edge.Den (List.getD a1 i Edge.zero)))) i Edge.zero)) ((k2 + 1 : Nat) : Int) (Edge.Den (List.getD (List.set a1 i (Edge.mk ((k2 : Nat) : Int) (Edge.B (List.getD a1 i Edge.zero)) (Edge.Den (List.getD a1 i Edge.zero)))) i Edge.zero)))) : List Edge)) (by kernel_rfl) fun ha955 _ => ?_
        replace ha955 : ((List.length (List.set (List.set a1 i (Edge.mk ((k2 : Nat) : Int) (Edge.B (List.getD a1 i Edge.zero)) (Edge.Den (List.getD a1 i Edge.zero)))) i (Edge.mk (Edge.A (List.getD (List.set a1 i (Edge.mk ((k2 : Nat) : Int) (Edge.B (List.getD a1 i Edge.zero)) (Edge.Den (List.getD a1 i Edge.zero)))) i Edge.zero)) ((k2 + 1 : Nat) : Int) (Edge.Den (List.getD (List.set a1 i (Edge.mk ((k2 : Nat) : Int) (Edge.B (List.getD a1 i Edge.zero)) (Edge.Den (List.getD a1 i Edge.zero)))) i Edge.zero)))) : Nat) : Int) ≤ 4294967296 := ha955
        refine AW.r0 hC2 [0, 1, 5, 1001, 2001, 2004, 2006, 2007] [4, 72, 88, 4040] ⟨[(0, .arr 4040 1), (1, .int .i64 (((k2 + 1) + 1 : Nat) : Int)), (5, .int .i64 ((i : Nat) : Int)), (1001, .int .i64 ((k1 : Nat) : Int)), (2001, .ref 4 1 0), (2004, .arr 72 1), (2006, .arr 88 1), (2007, .int .i64 1)], [(4, .box 1 [.data (.slice (.int .i64)) ((Graph.Rows aG) : List Int), .data (.slice (.named 0)) ((Graph.Edges aG) : List Edge)]), (72, .arr 1 (.int .i64) ((BestCosts (toGraph aG)) : List Int)), (88, .arr 1 (.int .i64) ((iBestCosts (Graph.mk (toIntS (Graph.Rows aG)) (toEdgeS (Graph.Edges aG)))) : List Int)), (4040, .arr 1 (.named 0) ((List.set (List.set a1 i (Edge.mk ((k2 : Nat) : Int) (Edge.B (List.getD a1 i Edge.zero)) (Edge.Den (List.getD a1 i Edge.zero)))) i (Edge.mk (Edge.A (List.getD (List.set a1 i (Edge.mk ((k2 : Nat) : Int) (Edge.B (List.getD a1 i Edge.zero)) (Edge.Den (List.getD a1 i Edge.zero)))) i Edge.zero)) ((k2 + 1 : Nat) : Int) (Edge.Den (List.getD (List.set a1 i (Edge.mk ((k2 : Nat) : Int) (Edge.B (List.getD a1 i Edge.zero)) (Edge.Den (List.getD a1 i Edge.zero)))) i Edge.zero)))) : List Edge))]⟩ [(-9223372036854775808 ≤ (((k2 + 1) + 1 : Nat) : Int) ∧ (((k2 + 1) + 1 : Nat) : Int) ≤ 9223372036854775807)] ?_ ?_
        ·
         refine ⟨?_, trivial⟩
         ·
          first | omega | (dsimp only; omega) | (simp only [lens] at *; omega)
        refine AW.seq (AW.wf_arr (id := 72) (ep := 1) (t := (.int .i64)) (xs := ((BestCosts (toGraph aG)) : List Int)) (by kernel_rfl) fun ha956 _ => ?_)
        replace ha956 : ((List.length (BestCosts (toGraph aG)) : Nat) : Int) ≤ 4294967296 := ha956
        refine AW.wf_arr (id := 88) (ep := 1) (t := (.int .i64)) (xs := ((iBestCosts (Graph.mk (toIntS (Graph.Rows aG)) (toEdgeS (Graph.Edges aG)))) : List Int)) (by kernel_rfl) fun ha957 _ => ?_
        replace ha957 : ((List.length (iBestCosts (Graph.mk (toIntS (Graph.Rows aG)) (toEdgeS (Graph.Edges aG)))) : Nat) : Int) ≤ 4294967296 := ha957
        refine AW.wf_arr (id := 4040) (ep := 1) (t := (.named 0)) (xs := ((List.set (List.set a1 i (Edge.mk ((k2 : Nat) : Int) (Edge.B (List.getD a1 i Edge.zero)) (Edge.Den (List.getD a1 i Edge.zero)))) i (Edge.mk (Edge.A (List.getD (List.set a1 i (Edge.mk ((k2 : Nat) : Int) (Edge.B (List.getD a1 i Edge.zero)) (Edge.Den (List.getD a1 i Edge.zero)))) i Edge.zero)) ((k2 + 1 : Nat) : Int) (Edge.Den (List.getD (List.set a1 i (Edge.mk ((k2 : Nat) : Int) (Edge.B (List.getD a1 i Edge.zero)) (Edge.Den (List.getD a1 i Edge.zero)))) i Edge.zero)))) : List Edge)) (by kernel_rfl) fun ha958 _ => ?_
        replace ha958 : ((List.length (List.set (List.set a1 i (Edge.mk ((k2 : Nat) : Int) (Edge.B (List.getD a1 i Edge.zero)) (Edge.Den (List.getD a1 i Edge.zero)))) i (Edge.mk (Edge.A (List.getD (List.set a1 i (Edge.mk ((k2 : Nat) : Int) (Edge.B (List.getD a1 i Edge.zero)) (Edge.Den (List.getD a1 i Edge.zero)))) i Edge.zero)) ((k2 + 1 : Nat) : Int) (Edge.Den (List.getD (List.set a1 i (Edge.mk ((k2 : Nat) : Int) (Edge.B (List.getD a1 i Edge.zero)) (Edge.Den (List.getD a1 i Edge.zero)))) i Edge.zero)))) : Nat) : Int) ≤ 4294967296 := ha958
        refine AW.r0 hC2 [0, 1, 5, 1001, 2001, 2004, 2006, 2007] [4, 72, 88, 4040] ⟨[(0, .arr 4040 1), (1, .int .i64 (((k2 + 1) + 1 : Nat) : Int)), (5, .int .i64 ((i : Nat) : Int)), (1001, .int .i64 ((k1 : Nat) : Int)), (2001, .ref 4 1 0), (2004, .arr 72 1), (2006, .arr 88 1), (2007, .int .i64 1)], [(4, .box 1 [.data (.slice (.int .i64)) ((Graph.Rows aG) : List Int), .data (.slice (.named 0)) ((Graph.Edges aG) : List Edge)]), (72, .arr 1 (.int .i64) ((BestCosts (toGraph aG)) : List Int)), (88, .arr 1 (.int .i64) ((iBestCosts (Graph.mk (toIntS (Graph.Rows aG)) (toEdgeS (Graph.Edges aG)))) : List Int)), (4040, .arr 1 (.named 0) ((List.set (List.set (List.set a1 i (Edge.mk ((k2 : Nat) : Int) (Edge.B (List.getD a1 i Edge.zero)) (Edge.Den (List.getD a1 i Edge.zero)))) i (Edge.mk (Edge.A (List.getD (List.set a1 i (Edge.mk ((k2 : Nat) : Int) (Edge.B (List.getD a1 i Edge.zero)) (Edge.Den (List.getD a1 i Edge.zero)))) i Edge.zero)) ((k2 + 1 : Nat) : Int) (Edge.Den (List.getD (List.set a1 i (Edge.mk ((k2 : Nat) : Int) (Edge.B (List.getD a1 i Edge.zero)) (Edge.Den (List.getD a1 i Edge.zero)))) i Edge.zero)))) i (Edge.mk (Edge.A (List.getD (List.set (List.set a1 i (Edge.mk ((k2 : Nat) : Int) (Edge.B (List.getD a1 i Edge.zero)) (Edge.Den (List.getD a1 i Edge.zero)))) i (Edge.mk (Edge.A (List.getD (List.set a1 i (Edge.mk ((k2 : Nat) : Int) (Edge.B (List.getD a1 i Edge.zero)) (Edge.Den (List.getD a1 i Edge.zero)))) i Edge.zero)) ((k2 + 1 : Nat) : Int) (Edge.Den (List.getD (List.set a1 i (Edge.mk ((k2 : Nat) : Int) (Edge.B (List.getD a1 i Edge.zero)) (Edge.Den (List.getD a1 i Edge.zero)))) i Edge.zero)))) i Edge.zero)) (Edge.B (List.getD (List.set (List.set a1 i (Edge.mk ((k2 : Nat) : Int) (Edge.B (List.getD a1 i Edge.zero)) (Edge.Den (List.getD a1 i Edge.zero)))) i (Edge.mk (Edge.A (List.getD (List.set a1 i (Edge.mk ((k2 : Nat) : Int) (Edge.B (List.getD a1 i Edge.zero)) (Edge.Den (List.getD a1 i Edge.zero)))) i Edge.zero)) ((k2 + 1 : Nat) : Int) (Edge.Den (List.getD (List.set a1 i (Edge.mk ((k2 : Nat) : Int) (Edge.B (List.getD a1 i Edge.zero)) (Edge.Den (List.getD a1 i Edge.zero)))) i Edge.zero)))) i Edge.zero)) (((k2 + 1) + 1 : Nat) : Int))) : List Edge))]⟩ [(0 ≤ ((i : Nat) : Int) ∧ ((i : Nat) : Int) < ((List.length (List.set (List.set a1 i (Edge.mk ((k2 : Nat) : Int) (Edge.B (List.getD a1 i Edge.zero)) (Edge.Den (List.getD a1 i Edge.zero)))) i (Edge.mk (Edge.A (List.getD (List.set a1 i (Edge.mk ((k2 : Nat) : Int) (Edge.B (List.getD a1 i Edge.zero)) (Edge.Den (List.getD a1 i Edge.zero)))) i Edge.zero)) ((k2 + 1 : Nat) : Int) (Edge.Den (List.getD (List.set a1 i (Edge.mk ((k2 : Nat) : Int) (Edge.B (List.getD a1 i Edge.zero)) (Edge.Den (List.getD a1 i Edge.zero)))) i Edge.zero)))) : Nat) : Int))] ?_ ?_
        ·
         refine ⟨?_, trivial⟩
         ·
          first | omega | (dsimp only; omega) | (simp only [lens] at *; omega)
        refine AW.wf_arr (id := 72) (ep := 1) (t := (.int .i64)) (xs := ((BestCosts (toGraph aG)) : List Int)) (by kernel_rfl) fun ha959 _ => ?_
        replace ha959 : ((List.length (BestCosts (toGraph aG)) : Nat) : Int) ≤ 4294967296 := ha959
        refine AW.wf_arr (id := 88) (ep := 1) (t := (.int .i64)) (xs := ((iBestCosts (Graph.mk (toIntS (Graph.Rows aG)) (toEdgeS (Graph.Edges aG)))) : List Int)) (by kernel_rfl) fun ha960 _ => ?_
        replace ha960 : ((List.length (iBestCosts (Graph.mk (toIntS (Graph.Rows aG)) (toEdgeS (Graph.Edges aG)))) : Nat) : Int) ≤ 4294967296 := ha960
        refine AW.wf_arr (id := 4040) (ep := 1) (t := (.named 0)) (xs := ((List.set (List.set (List.set a1 i (Edge.mk ((k2 : Nat) : Int) (Edge.B (List.getD a1 i Edge.zero)) (Edge.Den (List.getD a1 i Edge.zero)))) i (Edge.mk (Edge.A (List.getD (List.set a1 i (Edge.mk ((k2 : Nat) : Int) (Edge.B (List.getD a1 i Edge.zero)) (Edge.Den (List.getD a1 i Edge.zero)))) i Edge.zero)) ((k2 + 1 : Nat) : Int) (Edge.Den (List.getD (List.set a1 i (Edge.mk ((k2 : Nat) : Int) (Edge.B (List.getD a1 i Edge.zero)) (Edge.Den (List.getD a1 i Edge.zero)))) i Edge.zero)))) i (Edge.mk (Edge.A (List.getD (List.set (List.set a1 i (Edge.mk ((k2 : Nat) : Int) (Edge.B (List.getD a1 i Edge.zero)) (Edge.Den (List.getD a1 i Edge.zero)))) i (Edge.mk (Edge.A (List.getD (List.set a1 i (Edge.mk ((k2 : Nat) : Int) (Edge.B (List.getD a1 i Edge.zero)) (Edge.Den (List.getD a1 i Edge.zero)))) i Edge.zero)) ((k2 + 1 : Nat) : Int) (Edge.Den (List.getD (List.set a1 i (Edge.mk ((k2 : Nat) : Int) (Edge.B (List.getD a1 i Edge.zero)) (Edge.Den (List.getD a1 i Edge.zero)))) i Edge.zero)))) i Edge.zero)) (Edge.B (List.getD (List.set (List.set a1 i (Edge.mk ((k2 : Nat) : Int) (Edge.B (List.getD a1 i Edge.zero)) (Edge.Den (List.getD a1 i Edge.zero)))) i (Edge.mk (Edge.A (List.getD (List.set a1 i (Edge.mk ((k2 : Nat) : Int) (Edge.B (List.getD a1 i Edge.zero)) (Edge.Den (List.getD a1 i Edge.zero)))) i Edge.zero)) ((k2 + 1 : Nat) : Int) (Edge.Den (List.getD (List.set a1 i (Edge.mk ((k2 : Nat) : Int) (Edge.B (List.getD a1 i Edge.zero)) (Edge.Den (List.getD a1 i Edge.zero)))) i Edge.zero)))) i Edge.zero)) (((k2 + 1) + 1 : Nat) : Int))) : List Edge)) (by kernel_rfl) fun ha961 _ => ?_
        replace ha961 : ((List.length (List.set (List.set (List.set a1 i (Edge.mk ((k2 : Nat) : Int) (Edge.B (List.getD a1 i Edge.zero)) (Edge.Den (List.getD a1 i Edge.zero)))) i (Edge.mk (Edge.A (List.getD (List.set a1 i (Edge.mk ((k2 : Nat) : Int) (Edge.B (List.getD a1 i Edge.zero)) (Edge.Den (List.getD a1 i Edge.zero)))) i Edge.zero)) ((k2 + 1 : Nat) : Int) (Edge.Den (List.getD (List.set a1 i (Edge.mk ((k2 : Nat) : Int) (Edge.B (List.getD a1 i Edge.zero)) (Edge.Den (List.getD a1 i Edge.zero)))) i Edge.zero)))) i (Edge.mk (Edge.A (List.getD (List.set (List.set a1 i (Edge.mk ((k2 : Nat) : Int) (Edge.B (List.getD a1 i Edge.zero)) (Edge.Den (List.getD a1 i Edge.zero)))) i (Edge.mk (Edge.A (List.getD (List.set a1 i (Edge.mk ((k2 : Nat) : Int) (Edge.B (List.getD a1 i Edge.zero)) (Edge.Den (List.getD a1 i Edge.zero)))) i Edge.zero)) ((k2 + 1 : Nat) : Int) (Edge.Den (List.getD (List.set a1 i (Edge.mk ((k2 : Nat) : Int) (Edge.B (List.getD a1 i Edge.zero)) (Edge.Den (List.getD a1 i Edge.zero)))) i Edge.zero)))) i Edge.zero)) (Edge.B (List.getD (List.set (List.set a1 i (Edge.mk ((k2 : Nat) : Int) (Edge.B (List.getD a1 i Edge.zero)) (Edge.Den (List.getD a1 i Edge.zero)))) i (Edge.mk (Edge.A (List.getD (List.set a1 i (Edge.mk ((k2 : Nat) : Int) (Edge.B (List.getD a1 i Edge.zero)) (Edge.Den (List.getD a1 i Edge.zero)))) i Edge.zero)) ((k2 + 1 : Nat) : Int) (Edge.Den (List.getD (List.set a1 i (Edge.mk ((k2 : Nat) : Int) (Edge.B (List.getD a1 i Edge.zero)) (Edge.Den (List.getD a1 i Edge.zero)))) i Edge.zero)))) i Edge.zero)) (((k2 + 1) + 1 : Nat) : Int))) : Nat) : Int) ≤ 4294967296 := ha961
        refine AW.r0 hC2 [0, 1, 5, 1001, 2001, 2004, 2006, 2007] [4, 72, 88, 4040] ⟨[(0, .arr 4040 1), (1, .int .i64 ((((k2 + 1) + 1) + 1 : Nat) : Int)), (5, .int .i64 ((i : Nat) : Int)), (1001, .int .i64 ((k1 : Nat) : Int)), (2001, .ref 4 1 0), (2004, .arr 72 1), (2006, .arr 88 1), (2007, .int .i64 1)], [(4, .box 1 [.data (.slice (.int .i64)) ((Graph.Rows aG) : List Int), .data (.slice (.named 0)) ((Graph.Edges aG) : List Edge)]), (72, .arr 1 (.int .i64) ((BestCosts (toGraph aG)) : List Int)), (88, .arr 1 (.int .i64) ((iBestCosts (Graph.mk (toIntS (Graph.Rows aG)) (toEdgeS (Graph.Edges aG)))) : List Int)), (4040, .arr 1 (.named 0) ((List.set (List.set (List.set a1 i (Edge.mk ((k2 : Nat) : Int) (Edge.B (List.getD a1 i Edge.zero)) (Edge.Den (List.getD a1 i Edge.zero)))) i (Edge.mk (Edge.A (List.getD (List.set a1 i (Edge.mk ((k2 : Nat) : Int) (Edge.B (List.getD a1 i Edge.zero)) (Edge.Den (List.getD a1 i Edge.zero)))) i Edge.zero)) ((k2 + 1 : Nat) : Int) (Edge.Den (List.getD (List.set a1 i (Edge.mk ((k2 : Nat) : Int) (Edge.B (List.getD a1 i Edge.zero)) (Edge.Den (List.getD a1 i Edge.zero)))) i Edge.zero)))) i (Edge.mk (Edge.A (List.getD (List.set (List.set a1 i (Edge.mk ((k2 : Nat) : Int) (Edge.B (List.getD a1 i Edge.zero)) (Edge.Den (List.getD a1 i Edge.zero)))) i (Edge.mk (Edge.A (List.getD (List.set a1 i (Edge.mk ((k2 : Nat) : Int) (Edge.B (List.getD a1 i Edge.zero)) (Edge.Den (List.getD a1 i Edge.zero)))) i Edge.zero)) ((k2 + 1 : Nat) : Int) (Edge.Den (List.getD (List.set a1 i (Edge.mk ((k2 : Nat) : Int) (Edge.B (List.getD a1 i Edge.zero)) (Edge.Den (List.getD a1 i Edge.zero)))) i Edge.zero)))) i Edge.zero)) (Edge.B (List.getD (List.set (List.set a1 i (Edge.mk ((k2 : Nat) : Int) (Edge.B (List.getD a1 i Edge.zero)) (Edge.Den (List.getD a1 i Edge.zero)))) i (Edge.mk (Edge.A (List.getD (List.set a1 i (Edge.mk ((k2 : Nat) : Int) (Edge.B (List.getD a1 i Edge.zero)) (Edge.Den (List.getD a1 i Edge.zero)))) i Edge.zero)) ((k2 + 1 : Nat) : Int) (Edge.Den (List.getD (List.set a1 i (Edge.mk ((k2 : Nat) : Int) (Edge.B (List.getD a1 i Edge.zero)) (Edge.Den (List.getD a1 i Edge.zero)))) i Edge.zero)))) i Edge.zero)) (((k2 + 1) + 1 : Nat) : Int))) : List Edge))]⟩ [(-9223372036854775808 ≤ ((((k2 + 1) + 1) + 1 : Nat) : Int) ∧ ((((k2 + 1) + 1) + 1 : Nat) : Int) ≤ 9223372036854775807)] ?_ ?_
        ·
         refine ⟨?_, trivial⟩
         ·
          first | omega | (dsimp only; omega) | (simp only [lens] at *; omega)
        refine AW.wf_arr (id := 72) (ep := 1) (t := (.int .i64)) (xs := ((BestCosts (toGraph aG)) : List Int)) (by kernel_rfl) fun ha962 _ => ?_
        replace ha962 : ((List.length (BestCosts (toGraph aG)) : Nat) : Int) ≤ 4294967296 := ha962
        refine AW.wf_arr (id := 88) (ep := 1) (t := (.int .i64)) (xs := ((iBestCosts (Graph.mk (toIntS (Graph.Rows aG)) (toEdgeS (Graph.Edges aG)))) : List Int)) (by kernel_rfl) fun ha963 _ => ?_
        replace ha963 : ((List.length (iBestCosts (Graph.mk (toIntS (Graph.Rows aG)) (toEdgeS (Graph.Edges aG)))) : Nat) : Int) ≤ 4294967296 := ha963
        refine AW.wf_arr (id := 4040) (ep := 1) (t := (.named 0)) (xs := ((List.set (List.set (List.set a1 i (Edge.mk ((k2 : Nat) : Int) (Edge.B (List.getD a1 i Edge.zero)) (Edge.Den (List.getD a1 i Edge.zero)))) i (Edge.mk (Edge.A (List.getD (List.set a1 i (Edge.mk ((k2 : Nat) : Int) (Edge.B (List.getD a1 i Edge.zero)) (Edge.Den (List.getD a1 i Edge.zero)))) i Edge.zero)) ((k2 + 1 : Nat) : Int) (Edge.Den (List.getD (List.set a1 i (Edge.mk ((k2 : Nat) : Int) (Edge.B (List.getD a1 i Edge.zero)) (Edge.Den (List.getD a1 i Edge.zero)))) i Edge.zero)))) i (Edge.mk (Edge.A (List.getD (List.set (List.set a1 i (Edge.mk ((k2 : Nat) : Int) (Edge.B (List.getD a1 i Edge.zero)) (Edge.Den (List.getD a1 i Edge.zero)))) i (Edge.mk (Edge.A (List.getD (List.set a1 i (Edge.mk ((k2 : Nat) : Int) (Edge.B (List.getD a1 i Edge.zero)) (Edge.Den (List.getD a1 i Edge.zero)))) i Edge.zero)) ((k2 + 1 : Nat) : Int) (Edge.Den (List.getD (List.set a1 i (Edge.mk ((k2 : Nat) : Int) (Edge.B (List.getD a1 i Edge.zero)) (Edge.Den (List.getD a1 i Edge.zero)))) i Edge.zero)))) i Edge.zero)) (Edge.B (List.getD (List.set (List.set a1 i (Edge.mk ((k2 : Nat) : Int) (Edge.B (List.getD a1 i Edge.zero)) (Edge.Den (List.getD a1 i Edge.zero)))) i (Edge.mk (Edge.A (List.getD (List.set a1 i (Edge.mk ((k2 : Nat) : Int) (Edge.B (List.getD a1 i Edge.zero)) (Edge.Den (List.getD a1 i Edge.zero)))) i Edge.zero)) ((k2 + 1 : Nat) : Int) (Edge.Den (List.getD (List.set a1 i (Edge.mk ((k2 : Nat) : Int) (Edge.B (List.getD a1 i Edge.zero)) (Edge.Den (List.getD a1 i Edge.zero)))) i Edge.zero)))) i Edge.zero)) (((k2 + 1) + 1 : Nat) : Int))) : List Edge)) (by kernel_rfl) fun ha964 _ => ?_
        replace ha964 : ((List.length (List.set (List.set (List.set a1 i (Edge.mk ((k2 : Nat) : Int) (Edge.B (List.getD a1 i Edge.zero)) (Edge.Den (List.getD a1 i Edge.zero)))) i (Edge.mk (Edge.A (List.getD (List.set a1 i (Edge.mk ((k2 : Nat) : Int) (Edge.B (List.getD a1 i Edge.zero)) (Edge.Den (List.getD a1 i Edge.zero)))) i Edge.zero)) ((k2 + 1 : Nat) : Int) (Edge.Den (List.getD (List.set a1 i (Edge.mk ((k2 : Nat) : Int) (Edge.B (List.getD a1 i Edge.zero)) (Edge.Den (List.getD a1 i Edge.zero)))) i Edge.zero)))) i (Edge.mk (Edge.A (List.getD (List.set (List.set a1 i (Edge.mk ((k2 : Nat) : Int) (Edge.B (List.getD a1 i Edge.zero)) (Edge.Den (List.getD a1 i Edge.zero)))) i (Edge.mk (Edge.A (List.getD (List.set a1 i (Edge.mk ((k2 : Nat) : Int) (Edge.B (List.getD a1 i Edge.zero)) (Edge.Den (List.getD a1 i Edge.zero)))) i Edge.zero)) ((k2 + 1 : Nat) : Int) (Edge.Den (List.getD (List.set a1 i (Edge.mk ((k2 : Nat) : Int) (Edge.B (List.getD a1 i Edge.zero)) (Edge.Den (List.getD a1 i Edge.zero)))) i Edge.zero)))) i Edge.zero)) (Edge.B (List.getD (List.set (List.set a1 i (Edge.mk ((k2 : Nat) : Int) (Edge.B (List.getD a1 i Edge.zero)) (Edge.Den (List.getD a1 i Edge.zero)))) i (Edge.mk (Edge.A (List.getD (List.set a1 i (Edge.mk ((k2 : Nat) : Int) (Edge.B (List.getD a1 i Edge.zero)) (Edge.Den (List.getD a1 i Edge.zero)))) i Edge.zero)) ((k2 + 1 : Nat) : Int) (Edge.Den (List.getD (List.set a1 i (Edge.mk ((k2 : Nat) : Int) (Edge.B (List.getD a1 i Edge.zero)) (Edge.Den (List.getD a1 i Edge.zero)))) i Edge.zero)))) i Edge.zero)) (((k2 + 1) + 1 : Nat) : Int))) : Nat) : Int) ≤ 4294967296 := ha964
        refine AW.r0 hC2 [0, 1, 5, 1001, 2001, 2004, 2006, 2007] [4, 72, 88, 4040] ⟨[(0, .arr 4040 1), (1, .int .i64 ((((k2 + 1) + 1) + 1 : Nat) : Int)), (5, .int .i64 ((i + 1 : Nat) : Int)), (1001, .int .i64 ((k1 : Nat) : Int)), (2001, .ref 4 1 0), (2004, .arr 72 1), (2006, .arr 88 1), (2007, .int .i64 1)], [(4, .box 1 [.data (.slice (.int .i64)) ((Graph.Rows aG) : List Int), .data (.slice (.named 0)) ((Graph.Edges aG) : List Edge)]), (72, .arr 1 (.int .i64) ((BestCosts (toGraph aG)) : List Int)), (88, .arr 1 (.int .i64) ((iBestCosts (Graph.mk (toIntS (Graph.Rows aG)) (toEdgeS (Graph.Edges aG)))) : List Int)), (4040, .arr 1 (.named 0) ((List.set (List.set (List.set a1 i (Edge.mk ((k2 : Nat) : Int) (Edge.B (List.getD a1 i Edge.zero)) (Edge.Den (List.getD a1 i Edge.zero)))) i (Edge.mk (Edge.A (List.getD (List.set a1 i (Edge.mk ((k2 : Nat) : Int) (Edge.B (List.getD a1 i Edge.zero)) (Edge.Den (List.getD a1 i Edge.zero)))) i Edge.zero)) ((k2 + 1 : Nat) : Int) (Edge.Den (List.getD (List.set a1 i (Edge.mk ((k2 : Nat) : Int) (Edge.B (List.getD a1 i Edge.zero)) (Edge.Den (List.getD a1 i Edge.zero)))) i Edge.zero)))) i (Edge.mk (Edge.A (List.getD (List.set (List.set a1 i (Edge.mk ((k2 : Nat) : Int) (Edge.B (List.getD a1 i Edge.zero)) (Edge.Den (List.getD a1 i Edge.zero)))) i (Edge.mk (Edge.A (List.getD (List.set a1 i (Edge.mk ((k2 : Nat) : Int) (Edge.B (List.getD a1 i Edge.zero)) (Edge.Den (List.getD a1 i Edge.zero)))) i Edge.zero)) ((k2 + 1 : Nat) : Int) (Edge.Den (List.getD (List.set a1 i (Edge.mk ((k2 : Nat) : Int) (Edge.B (List.getD a1 i Edge.zero)) (Edge.Den (List.getD a1 i Edge.zero)))) i Edge.zero)))) i Edge.zero)) (Edge.B (List.getD (List.set (List.set a1 i (Edge.mk ((k2 : Nat) : Int) (Edge.B (List.getD a1 i Edge.zero)) (Edge.Den (List.getD a1 i Edge.zero)))) i (Edge.mk (Edge.A (List.getD (List.set a1 i (Edge.mk ((k2 : Nat) : Int) (Edge.B (List.getD a1 i Edge.zero)) (Edge.Den (List.getD a1 i Edge.zero)))) i Edge.zero)) ((k2 + 1 : Nat) : Int) (Edge.Den (List.getD (List.set a1 i (Edge.mk ((k2 : Nat) : Int) (Edge.B (List.getD a1 i Edge.zero)) (Edge.Den (List.getD a1 i Edge.zero)))) i Edge.zero)))) i Edge.zero)) (((k2 + 1) + 1 : Nat) : Int))) : List Edge))]⟩ [(-9223372036854775808 ≤ ((i + 1 : Nat) : Int) ∧ ((i + 1 : Nat) : Int) ≤ 9223372036854775807)] ?_ ?_
        ·
         refine ⟨?_, trivial⟩
         ·
          first | omega | (dsimp only; omega) | (simp only [lens] at *; omega)
        refine AW.back (x := (k2, i, a1)) (((k2 + 1) + 1) + 1, i + 1, (List.set (List.set (List.set a1 i (Edge.mk ((k2 : Nat) : Int) (Edge.B (List.getD a1 i Edge.zero)) (Edge.Den (List.getD a1 i Edge.zero)))) i (Edge.mk (Edge.A (List.getD (List.set a1 i (Edge.mk ((k2 : Nat) : Int) (Edge.B (List.getD a1 i Edge.zero)) (Edge.Den (List.getD a1 i Edge.zero)))) i Edge.zero)) ((k2 + 1 : Nat) : Int) (Edge.Den (List.getD (List.set a1 i (Edge.mk ((k2 : Nat) : Int) (Edge.B (List.getD a1 i Edge.zero)) (Edge.Den (List.getD a1 i Edge.zero)))) i Edge.zero)))) i (Edge.mk (Edge.A (List.getD (List.set (List.set a1 i (Edge.mk ((k2 : Nat) : Int) (Edge.B (List.getD a1 i Edge.zero)) (Edge.Den (List.getD a1 i Edge.zero)))) i (Edge.mk (Edge.A (List.getD (List.set a1 i (Edge.mk ((k2 : Nat) : Int) (Edge.B (List.getD a1 i Edge.zero)) (Edge.Den (List.getD a1 i Edge.zero)))) i Edge.zero)) ((k2 + 1 : Nat) : Int) (Edge.Den (List.getD (List.set a1 i (Edge.mk ((k2 : Nat) : Int) (Edge.B (List.getD a1 i Edge.zero)) (Edge.Den (List.getD a1 i Edge.zero)))) i Edge.zero)))) i Edge.zero)) (Edge.B (List.getD (List.set (List.set a1 i (Edge.mk ((k2 : Nat) : Int) (Edge.B (List.getD a1 i Edge.zero)) (Edge.Den (List.getD a1 i Edge.zero)))) i (Edge.mk (Edge.A (List.getD (List.set a1 i (Edge.mk ((k2 : Nat) : Int) (Edge.B (List.getD a1 i Edge.zero)) (Edge.Den (List.getD a1 i Edge.zero)))) i Edge.zero)) ((k2 + 1 : Nat) : Int) (Edge.Den (List.getD (List.set a1 i (Edge.mk ((k2 : Nat) : Int) (Edge.B (List.getD a1 i Edge.zero)) (Edge.Den (List.getD a1 i Edge.zero)))) i Edge.zero)))) i Edge.zero)) (((k2 + 1) + 1 : Nat) : Int)))) (by kernel_rfl) ⟨?_, k938q, ?_, e943⟩ ?_
        ·
         show (1 ≤ (((k2 + 1) + 1) + 1) ∧ (((k2 + 1) + 1) + 1) ≤ 4294967297 + 3 * (i + 1)) ∧ ((i + 1) ≤ List.length (List.set (List.set (List.set a1 i (Edge.mk ((k2 : Nat) : Int) (Edge.B (List.getD a1 i Edge.zero)) (Edge.Den (List.getD a1 i Edge.zero)))) i (Edge.mk (Edge.A (List.getD (List.set a1 i (Edge.mk ((k2 : Nat) : Int) (Edge.B (List.getD a1 i Edge.zero)) (Edge.Den (List.getD a1 i Edge.zero)))) i Edge.zero)) ((k2 + 1 : Nat) : Int) (Edge.Den (List.getD (List.set a1 i (Edge.mk ((k2 : Nat) : Int) (Edge.B (List.getD a1 i Edge.zero)) (Edge.Den (List.getD a1 i Edge.zero)))) i Edge.zero)))) i (Edge.mk (Edge.A (List.getD (List.set (List.set a1 i (Edge.mk ((k2 : Nat) : Int) (Edge.B (List.getD a1 i Edge.zero)) (Edge.Den (List.getD a1 i Edge.zero)))) i (Edge.mk (Edge.A (List.getD (List.set a1 i (Edge.mk ((k2 : Nat) : Int) (Edge.B (List.getD a1 i Edge.zero)) (Edge.Den (List.getD a1 i Edge.zero)))) i Edge.zero)) ((k2 + 1 : Nat) : Int) (Edge.Den (List.getD (List.set a1 i (Edge.mk ((k2 : Nat) : Int) (Edge.B (List.getD a1 i Edge.zero)) (Edge.Den (List.getD a1 i Edge.zero)))) i Edge.zero)))) i Edge.zero)) (Edge.B (List.getD (List.set (List.set a1 i (Edge.mk ((k2 : Nat) : Int) (Edge.B (List.getD a1 i Edge.zero)) (Edge.Den (List.getD a1 i Edge.zero)))) i (Edge.mk (Edge.A (List.getD (List.set a1 i (Edge.mk ((k2 : Nat) : Int) (Edge.B (List.getD a1 i Edge.zero)) (Edge.Den (List.getD a1 i Edge.zero)))) i Edge.zero)) ((k2 + 1 : Nat) : Int) (Edge.Den (List.getD (List.set a1 i (Edge.mk ((k2 : Nat) : Int) (Edge.B (List.getD a1 i Edge.zero)) (Edge.Den (List.getD a1 i Edge.zero)))) i Edge.zero)))) i Edge.zero)) (((k2 + 1) + 1 : Nat) : Int))) ∧ List.length (List.set (List.set (List.set a1 i (Edge.mk ((k2 : Nat) : Int) (Edge.B (List.getD a1 i Edge.zero)) (Edge.Den (List.getD a1 i Edge.zero)))) i (Edge.mk (Edge.A (List.getD (List.set a1 i (Edge.mk ((k2 : Nat) : Int) (Edge.B (List.getD a1 i Edge.zero)) (Edge.Den (List.getD a1 i Edge.zero)))) i Edge.zero)) ((k2 + 1 : Nat) : Int) (Edge.Den (List.getD (List.set a1 i (Edge.mk ((k2 : Nat) : Int) (Edge.B (List.getD a1 i Edge.zero)) (Edge.Den (List.getD a1 i Edge.zero)))) i Edge.zero)))) i (Edge.mk (Edge.A (List.getD (List.set (List.set a1 i (Edge.mk ((k2 : Nat) : Int) (Edge.B (List.getD a1 i Edge.zero)) (Edge.Den (List.getD a1 i Edge.zero)))) i (Edge.mk (Edge.A (List.getD (List.set a1 i (Edge.mk ((k2 : Nat) : Int) (Edge.B (List.getD a1 i Edge.zero)) (Edge.Den (List.getD a1 i Edge.zero)))) i Edge.zero)) ((k2 + 1 : Nat) : Int) (Edge.Den (List.getD (List.set a1 i (Edge.mk ((k2 : Nat) : Int) (Edge.B (List.getD a1 i Edge.zero)) (Edge.Den (List.getD a1 i Edge.zero)))) i Edge.zero)))) i Edge.zero)) (Edge.B (List.getD (List.set (List.set a1 i (Edge.mk ((k2 : Nat) : Int) (Edge.B (List.getD a1 i Edge.zero)) (Edge.Den (List.getD a1 i Edge.zero)))) i (Edge.mk (Edge.A (List.getD (List.set a1 i (Edge.mk ((k2 : Nat) : Int) (Edge.B (List.getD a1 i Edge.zero)) (Edge.Den (List.getD a1 i Edge.zero)))) i Edge.zero)) ((k2 + 1 : Nat) : Int) (Edge.Den (List.getD (List.set a1 i (Edge.mk ((k2 : Nat) : Int) (Edge.B (List.getD a1 i Edge.zero)) (Edge.Den (List.getD a1 i Edge.zero)))) i Edge.zero)))) i Edge.zero)) (((k2 + 1) + 1 : Nat) : Int))) ≤ 4294967296)
         simp only [List.length_set] at *
         omega
        ·
         show (List.length (List.set (List.set (List.set a1 i (Edge.mk ((k2 : Nat) : Int) (Edge.B (List.getD a1 i Edge.zero)) (Edge.Den (List.getD a1 i Edge.zero)))) i (Edge.mk (Edge.A (List.getD (List.set a1 i (Edge.mk ((k2 : Nat) : Int) (Edge.B (List.getD a1 i Edge.zero)) (Edge.Den (List.getD a1 i Edge.zero)))) i Edge.zero)) ((k2 + 1 : Nat) : Int) (Edge.Den (List.getD (List.set a1 i (Edge.mk ((k2 : Nat) : Int) (Edge.B (List.getD a1 i Edge.zero)) (Edge.Den (List.getD a1 i Edge.zero)))) i Edge.zero)))) i (Edge.mk (Edge.A (List.getD (List.set (List.set a1 i (Edge.mk ((k2 : Nat) : Int) (Edge.B (List.getD a1 i Edge.zero)) (Edge.Den (List.getD a1 i Edge.zero)))) i (Edge.mk (Edge.A (List.getD (List.set a1 i (Edge.mk ((k2 : Nat) : Int) (Edge.B (List.getD a1 i Edge.zero)) (Edge.Den (List.getD a1 i Edge.zero)))) i Edge.zero)) ((k2 + 1 : Nat) : Int) (Edge.Den (List.getD (List.set a1 i (Edge.mk ((k2 : Nat) : Int) (Edge.B (List.getD a1 i Edge.zero)) (Edge.Den (List.getD a1 i Edge.zero)))) i Edge.zero)))) i Edge.zero)) (Edge.B (List.getD (List.set (List.set a1 i (Edge.mk ((k2 : Nat) : Int) (Edge.B (List.getD a1 i Edge.zero)) (Edge.Den (List.getD a1 i Edge.zero)))) i (Edge.mk (Edge.A (List.getD (List.set a1 i (Edge.mk ((k2 : Nat) : Int) (Edge.B (List.getD a1 i Edge.zero)) (Edge.Den (List.getD a1 i Edge.zero)))) i Edge.zero)) ((k2 + 1 : Nat) : Int) (Edge.Den (List.getD (List.set a1 i (Edge.mk ((k2 : Nat) : Int) (Edge.B (List.getD a1 i Edge.zero)) (Edge.Den (List.getD a1 i Edge.zero)))) i Edge.zero)))) i Edge.zero)) (((k2 + 1) + 1 : Nat) : Int)))) - (i + 1) < k938q
         first | omega | (simp only [lens]; omega)
        ·
         show (List.length (List.set (List.set (List.set a1 i (Edge.mk ((k2 : Nat) : Int) (Edge.B (List.getD a1 i Edge.zero)) (Edge.Den (List.getD a1 i Edge.zero)))) i (Edge.mk (Edge.A (List.getD (List.set a1 i (Edge.mk ((k2 : Nat) : Int) (Edge.B (List.getD a1 i Edge.zero)) (Edge.Den (List.getD a1 i Edge.zero)))) i Edge.zero)) ((k2 + 1 : Nat) : Int) (Edge.Den (List.getD (List.set a1 i (Edge.mk ((k2 : Nat) : Int) (Edge.B (List.getD a1 i Edge.zero)) (Edge.Den (List.getD a1 i Edge.zero)))) i Edge.zero)))) i (Edge.mk (Edge.A (List.getD (List.set (List.set a1 i (Edge.mk ((k2 : Nat) : Int) (Edge.B (List.getD a1 i Edge.zero)) (Edge.Den (List.getD a1 i Edge.zero)))) i (Edge.mk (Edge.A (List.getD (List.set a1 i (Edge.mk ((k2 : Nat) : Int) (Edge.B (List.getD a1 i Edge.zero)) (Edge.Den (List.getD a1 i Edge.zero)))) i Edge.zero)) ((k2 + 1 : Nat) : Int) (Edge.Den (List.getD (List.set a1 i (Edge.mk ((k2 : Nat) : Int) (Edge.B (List.getD a1 i Edge.zero)) (Edge.Den (List.getD a1 i Edge.zero)))) i Edge.zero)))) i Edge.zero)) (Edge.B (List.getD (List.set (List.set a1 i (Edge.mk ((k2 : Nat) : Int) (Edge.B (List.getD a1 i Edge.zero)) (Edge.Den (List.getD a1 i Edge.zero)))) i (Edge.mk (Edge.A (List.getD (List.set a1 i (Edge.mk ((k2 : Nat) : Int) (Edge.B (List.getD a1 i Edge.zero)) (Edge.Den (List.getD a1 i Edge.zero)))) i Edge.zero)) ((k2 + 1 : Nat) : Int) (Edge.Den (List.getD (List.set a1 i (Edge.mk ((k2 : Nat) : Int) (Edge.B (List.getD a1 i Edge.zero)) (Edge.Den (List.getD a1 i Edge.zero)))) i Edge.zero)))) i Edge.zero)) (((k2 + 1) + 1 : Nat) : Int)))) - (i + 1) < (List.length a1) - i
         first | omega | (simp only [lens]; omega)
       ·
        intro h965
        have h965q : ¬ (((i : Nat) : Int) < ((List.length a1 : Nat) : Int)) := (of_decide_eq_false h965)
        have e966 := e937.trans (Go.Am.bif_f h965)
        refine AW.kp [1, 1001, 2001, 2004, 2006, 2007] [4, 72, 88] ⟨[(1, .int .i64 ((k2 : Nat) : Int)), (1001, .int .i64 ((k1 : Nat) : Int)), (2001, .ref 4 1 0), (2004, .arr 72 1), (2006, .arr 88 1), (2007, .int .i64 1)], [(4, .box 1 [.data (.slice (.int .i64)) ((Graph.Rows aG) : List Int), .data (.slice (.named 0)) ((Graph.Edges aG) : List Edge)]), (72, .arr 1 (.int .i64) ((BestCosts (toGraph aG)) : List Int)), (88, .arr 1 (.int .i64) ((iBestCosts (Graph.mk (toIntS (Graph.Rows aG)) (toEdgeS (Graph.Edges aG)))) : List Int))]⟩ ?_
        refine AW.exit ?_
        refine AW.meet k2 (by kernel_rfl) ⟨?_, e966⟩
        show 1 ≤ k2 ∧ k2 ≤ 17179869185
        omega
     ·
      intro k2 hR
      obtain ⟨hJ1, e967⟩ := hR
      replace hJ1 : 1 ≤ k2 ∧ k2 ≤ 17179869185 := hJ1
      have e968 := e712.trans (Go.Am.then_eq e967)
      refine AW.seq (AW.wf_arr (id := 72) (ep := 1) (t := (.int .i64)) (xs := ((BestCosts (toGraph aG)) : List Int)) (by kernel_rfl) fun ha969 _ => ?_)
      replace ha969 : ((List.length (BestCosts (toGraph aG)) : Nat) : Int) ≤ 4294967296 := ha969
      refine AW.wf_arr (id := 88) (ep := 1) (t := (.int .i64)) (xs := ((iBestCosts (Graph.mk (toIntS (Graph.Rows aG)) (toEdgeS (Graph.Edges aG)))) : List Int)) (by kernel_rfl) fun ha970 _ => ?_
      replace ha970 : ((List.length (iBestCosts (Graph.mk (toIntS (Graph.Rows aG)) (toEdgeS (Graph.Edges aG)))) : Nat) : Int) ≤ 4294967296 := ha970
      refine AW.r1 hC2 [4, 1001, 2001, 2004, 2006, 2007] [4, 72, 88] ⟨[(4, .int .i64 ((k2 : Nat) : Int)), (1001, .int .i64 ((k1 : Nat) : Int)), (2001, .ref 4 1 0), (2004, .arr 72 1), (2006, .arr 88 1), (2007, .int .i64 1)], [(4, .box 1 [.data (.slice (.int .i64)) ((Graph.Rows aG) : List Int), .data (.slice (.named 0)) ((Graph.Edges aG) : List Edge)]), (72, .arr 1 (.int .i64) ((BestCosts (toGraph aG)) : List Int)), (88, .arr 1 (.int .i64) ((iBestCosts (Graph.mk (toIntS (Graph.Rows aG)) (toEdgeS (Graph.Edges aG)))) : List Int))]⟩ ?_
      refine AW.ret ?_
      refine ⟨[.int .i64 ((k2 : Nat) : Int)], by kernel_rfl, ?_⟩
      refine AWO.keep [1, 12, 1001, 1004, 1006, 1007] [4, 72, 88] ⟨[(1, .int .i64 ((k1 : Nat) : Int)), (12, .int .i64 ((k2 : Nat) : Int)), (1001, .ref 4 1 0), (1004, .arr 72 1), (1006, .arr 88 1), (1007, .int .i64 1)], [(4, .box 1 [.data (.slice (.int .i64)) ((Graph.Rows aG) : List Int), .data (.slice (.named 0)) ((Graph.Edges aG) : List Edge)]), (72, .arr 1 (.int .i64) ((BestCosts (toGraph aG)) : List Int)), (88, .arr 1 (.int .i64) ((iBestCosts (Graph.mk (toIntS (Graph.Rows aG)) (toEdgeS (Graph.Edges aG)))) : List Int))]⟩ (by kernel_rfl) ?_
      refine AWO.run hC1 false [] [4] [] [1, 1001, 1004, 1006, 1007] [4, 72, 88]
       ⟨[(1, .int .i64 ((k2 : Nat) : Int)), (1001, .ref 4 1 0), (1004, .arr 72 1), (1006, .arr 88 1), (1007, .int .i64 1)], [(4, .box 1 [.data (.slice (.int .i64)) ((Graph.Rows aG) : List Int), .data (.slice (.named 0)) ((Graph.Edges aG) : List Edge)]), (72, .arr 1 (.int .i64) ((BestCosts (toGraph aG)) : List Int)), (88, .arr 1 (.int .i64) ((iBestCosts (Graph.mk (toIntS (Graph.Rows aG)) (toEdgeS (Graph.Edges aG)))) : List Int))]⟩
       [] (by rfl) (by kernel_rfl) ?_ ?_
      ·
       exact trivial
      refine AWO.nil ?_
      refine AW.seq (AW.wf_arr (id := 72) (ep := 1) (t := (.int .i64)) (xs := ((BestCosts (toGraph aG)) : List Int)) (by kernel_rfl) fun ha971 _ => ?_)
      replace ha971 : ((List.length (BestCosts (toGraph aG)) : Nat) : Int) ≤ 4294967296 := ha971
      refine AW.wf_arr (id := 88) (ep := 1) (t := (.int .i64)) (xs := ((iBestCosts (Graph.mk (toIntS (Graph.Rows aG)) (toEdgeS (Graph.Edges aG)))) : List Int)) (by kernel_rfl) fun ha972 _ => ?_
      replace ha972 : ((List.length (iBestCosts (Graph.mk (toIntS (Graph.Rows aG)) (toEdgeS (Graph.Edges aG)))) : Nat) : Int) ≤ 4294967296 := ha972
      refine AW.r1 hC1 [4, 1001, 1004, 1006, 1007] [4, 72, 88] ⟨[(4, .int .i64 ((k2 : Nat) : Int)), (1001, .ref 4 1 0), (1004, .arr 72 1), (1006, .arr 88 1), (1007, .int .i64 1)], [(4, .box 1 [.data (.slice (.int .i64)) ((Graph.Rows aG) : List Int), .data (.slice (.named 0)) ((Graph.Edges aG) : List Edge)]), (72, .arr 1 (.int .i64) ((BestCosts (toGraph aG)) : List Int)), (88, .arr 1 (.int .i64) ((iBestCosts (Graph.mk (toIntS (Graph.Rows aG)) (toEdgeS (Graph.Edges aG)))) : List Int))]⟩ ?_
      refine AW.ret ?_
      refine ⟨[.int .i64 ((k2 : Nat) : Int)], by kernel_rfl, ?_⟩
      refine AWO.keep [1, 4, 6, 7, 34] [4, 72, 88] ⟨[(1, .ref 4 1 0), (4, .arr 72 1), (6, .arr 88 1), (7, .int .i64 1), (34, .int .i64 ((k2 : Nat) : Int))], [(4, .box 1 [.data (.slice (.int .i64)) ((Graph.Rows aG) : List Int), .data (.slice (.named 0)) ((Graph.Edges aG) : List Edge)]), (72, .arr 1 (.int .i64) ((BestCosts (toGraph aG)) : List Int)), (88, .arr 1 (.int .i64) ((iBestCosts (Graph.mk (toIntS (Graph.Rows aG)) (toEdgeS (Graph.Edges aG)))) : List Int))]⟩ (by kernel_rfl) ?_
      refine AWO.run hC false [] [3] [] [1, 4, 6, 7] [4, 72, 88]
       ⟨[(1, .ref 4 1 0), (4, .arr 72 1), (6, .arr 88 1), (7, .int .i64 ((k2 : Nat) : Int))], [(4, .box 1 [.data (.slice (.int .i64)) ((Graph.Rows aG) : List Int), .data (.slice (.named 0)) ((Graph.Edges aG) : List Edge)]), (72, .arr 1 (.int .i64) ((BestCosts (toGraph aG)) : List Int)), (88, .arr 1 (.int .i64) ((iBestCosts (Graph.mk (toIntS (Graph.Rows aG)) (toEdgeS (Graph.Edges aG)))) : List Int))]⟩
       [] (by rfl) (by kernel_rfl) ?_ ?_
      ·
       exact trivial
      refine AWO.nil ?_
      refine AW.seq (AW.seq (AW.wf_arr (id := 72) (ep := 1) (t := (.int .i64)) (xs := ((BestCosts (toGraph aG)) : List Int)) (by kernel_rfl) fun ha973 _ => ?_))
      replace ha973 : ((List.length (BestCosts (toGraph aG)) : Nat) : Int) ≤ 4294967296 := ha973
      refine AW.wf_arr (id := 88) (ep := 1) (t := (.int .i64)) (xs := ((iBestCosts (Graph.mk (toIntS (Graph.Rows aG)) (toEdgeS (Graph.Edges aG)))) : List Int)) (by kernel_rfl) fun ha974 _ => ?_
      replace ha974 : ((List.length (iBestCosts (Graph.mk (toIntS (Graph.Rows aG)) (toEdgeS (Graph.Edges aG)))) : Nat) : Int) ≤ 4294967296 := ha974
      refine AW.r0 hC [1, 4, 6, 42] [4, 72, 88] ⟨[(1, .ref 4 1 0), (4, .arr 72 1), (6, .arr 88 1), (42, .bool (bif (decide (((k2 : Nat) : Int) < 0)) then true else (!(eqIntS (iBestCosts (Graph.mk (toIntS (Graph.Rows aG)) (toEdgeS (Graph.Edges aG)))) (BestCosts (toGraph aG))))))], [(4, .box 1 [.data (.slice (.int .i64)) ((Graph.Rows aG) : List Int), .data (.slice (.named 0)) ((Graph.Edges aG) : List Edge)]), (72, .arr 1 (.int .i64) ((BestCosts (toGraph aG)) : List Int)), (88, .arr 1 (.int .i64) ((iBestCosts (Graph.mk (toIntS (Graph.Rows aG)) (toEdgeS (Graph.Edges aG)))) : List Int))]⟩ [(((decide (((k2 : Nat) : Int) < 0)) = false) → (((decide (((k2 : Nat) : Int) < 0)) = false))), (((decide (((k2 : Nat) : Int) < 0)) = false) → (((decide (((k2 : Nat) : Int) < 0)) = false))), (((decide (((k2 : Nat) : Int) < 0)) = false) → (True)), (((decide (((k2 : Nat) : Int) < 0)) = false) → (((decide (((k2 : Nat) : Int) < 0)) = false))), (((decide (((k2 : Nat) : Int) < 0)) = false) → (((decide (((k2 : Nat) : Int) < 0)) = false)))] ?_ ?_
      ·
       refine ⟨?_, ?_, ?_, ?_, ?_, trivial⟩
       ·
        intro g975
        have g975p0 : ¬ (((k2 : Nat) : Int) < 0) := (of_decide_eq_false g975)
        first | assumption | exact ⟨by assumption, by assumption⟩
       ·
        intro g976
        have g976p0 : ¬ (((k2 : Nat) : Int) < 0) := (of_decide_eq_false g976)
        first | assumption | exact ⟨by assumption, by assumption⟩
       ·
        intro g977
        have g977p0 : ¬ (((k2 : Nat) : Int) < 0) := (of_decide_eq_false g977)
        trivial
       ·
        intro g978
        have g978p0 : ¬ (((k2 : Nat) : Int) < 0) := (of_decide_eq_false g978)
        first | assumption | exact ⟨by assumption, by assumption⟩
       ·
        intro g979
        have g979p0 : ¬ (((k2 : Nat) : Int) < 0) := (of_decide_eq_false g979)
        first | assumption | exact ⟨by assumption, by assumption⟩
      refine AW.cd (bif (decide (((k2 : Nat) : Int) < 0)) then true else (!(eqIntS (iBestCosts (Graph.mk (toIntS (Graph.Rows aG)) (toEdgeS (Graph.Edges aG)))) (BestCosts (toGraph aG))))) ?_ ?_
      ·
       intro h980
       have h980q : (((k2 : Nat) : Int) < 0) ∨ ((eqIntS (iBestCosts (Graph.mk (toIntS (Graph.Rows aG)) (toEdgeS (Graph.Edges aG)))) (BestCosts (toGraph aG))) = false) := (Or.imp (fun h => (of_decide_eq_true h)) (fun h => (Go.Am.not_pos h)) (Go.Am.or_pos h980))
       have e981 := e968.trans (Go.Am.bif_t h980)
       refine AW.seq (AW.wf_arr (id := 72) (ep := 1) (t := (.int .i64)) (xs := ((BestCosts (toGraph aG)) : List Int)) (by kernel_rfl) fun ha982 _ => ?_)
       replace ha982 : ((List.length (BestCosts (toGraph aG)) : Nat) : Int) ≤ 4294967296 := ha982
       refine AW.wf_arr (id := 88) (ep := 1) (t := (.int .i64)) (xs := ((iBestCosts (Graph.mk (toIntS (Graph.Rows aG)) (toEdgeS (Graph.Edges aG)))) : List Int)) (by kernel_rfl) fun ha983 _ => ?_
       replace ha983 : ((List.length (iBestCosts (Graph.mk (toIntS (Graph.Rows aG)) (toEdgeS (Graph.Edges aG)))) : Nat) : Int) ≤ 4294967296 := ha983
       refine AW.r1 hC [2] [] ⟨[(2, .bool false)], []⟩ ?_
       exact AW.ret (AW.retE (β := Bool) (fun v => [⟨.bool, v⟩]) (fun v => []) (v := false) e981 (by kernel_rfl) rfl rfl)
      ·
       intro h984
       have h984q : (¬ (((k2 : Nat) : Int) < 0)) ∧ ((eqIntS (iBestCosts (Graph.mk (toIntS (Graph.Rows aG)) (toEdgeS (Graph.Edges aG)))) (BestCosts (toGraph aG))) = true) := (And.imp (fun h => (of_decide_eq_false h)) (fun h => (Go.Am.not_neg h)) (Go.Am.or_neg h984))
       have e985 := e968.trans (Go.Am.bif_f h984)
       refine AW.kp [1, 4, 6] [4, 72, 88] ⟨[(1, .ref 4 1 0), (4, .arr 72 1), (6, .arr 88 1)], [(4, .box 1 [.data (.slice (.int .i64)) ((Graph.Rows aG) : List Int), .data (.slice (.named 0)) ((Graph.Edges aG) : List Edge)]), (72, .arr 1 (.int .i64) ((BestCosts (toGraph aG)) : List Int)), (88, .arr 1 (.int .i64) ((iBestCosts (Graph.mk (toIntS (Graph.Rows aG)) (toEdgeS (Graph.Edges aG)))) : List Int))]⟩ ?_
       refine AW.skip (AW.seq (AW.wf_arr (id := 72) (ep := 1) (t := (.int .i64)) (xs := ((BestCosts (toGraph aG)) : List Int)) (by kernel_rfl) fun ha986 _ => ?_))
       replace ha986 : ((List.length (BestCosts (toGraph aG)) : Nat) : Int) ≤ 4294967296 := ha986
       refine AW.wf_arr (id := 88) (ep := 1) (t := (.int .i64)) (xs := ((iBestCosts (Graph.mk (toIntS (Graph.Rows aG)) (toEdgeS (Graph.Edges aG)))) : List Int)) (by kernel_rfl) fun ha987 _ => ?_
       replace ha987 : ((List.length (iBestCosts (Graph.mk (toIntS (Graph.Rows aG)) (toEdgeS (Graph.Edges aG)))) : Nat) : Int) ≤ 4294967296 := ha987
       refine AW.r1 hC [1, 4, 6, 8] [4, 72, 88] ⟨[(1, .ref 4 1 0), (4, .arr 72 1), (6, .arr 88 1), (8, .int .i64 1)], [(4, .box 1 [.data (.slice (.int .i64)) ((Graph.Rows aG) : List Int), .data (.slice (.named 0)) ((Graph.Edges aG) : List Edge)]), (72, .arr 1 (.int .i64) ((BestCosts (toGraph aG)) : List Int)), (88, .arr 1 (.int .i64) ((iBestCosts (Graph.mk (toIntS (Graph.Rows aG)) (toEdgeS (Graph.Edges aG)))) : List Int))]⟩ ?_
       refine AW.seq (AW.wf_arr (id := 72) (ep := 1) (t := (.int .i64)) (xs := ((BestCosts (toGraph aG)) : List Int)) (by kernel_rfl) fun ha988 _ => ?_)
       replace ha988 : ((List.length (BestCosts (toGraph aG)) : Nat) : Int) ≤ 4294967296 := ha988
       refine AW.wf_arr (id := 88) (ep := 1) (t := (.int .i64)) (xs := ((iBestCosts (Graph.mk (toIntS (Graph.Rows aG)) (toEdgeS (Graph.Edges aG)))) : List Int)) (by kernel_rfl) fun ha989 _ => ?_
       replace ha989 : ((List.length (iBestCosts (Graph.mk (toIntS (Graph.Rows aG)) (toEdgeS (Graph.Edges aG)))) : Nat) : Int) ≤ 4294967296 := ha989
       refine AW.regionO [0, 1, 2, 3] (by rfl) ?_
       refine AWO.run hC false [] [0, 1] [2, 3] [1, 4, 6, 8, 43, 44] [4, 72, 88]
        ⟨[(1, .ref 4 1 0), (4, .arr 72 1), (6, .arr 88 1), (8, .int .i64 1), (43, .arr 88 1), (44, .int .i64 1)], [(4, .box 1 [.data (.slice (.int .i64)) ((Graph.Rows aG) : List Int), .data (.slice (.named 0)) ((Graph.Edges aG) : List Edge)]), (72, .arr 1 (.int .i64) ((BestCosts (toGraph aG)) : List Int)), (88, .arr 1 (.int .i64) ((iBestCosts (Graph.mk (toIntS (Graph.Rows aG)) (toEdgeS (Graph.Edges aG)))) : List Int))]⟩
        [] (by rfl) (by kernel_rfl) ?_ ?_
       ·
        exact trivial
       refine AWO.call hC.ty (vs := [.arr 88 1, .int .i64 1]) (caps := []) (by rfl) rfl (.inl rfl) (by decide) (by kernel_rfl) (by kernel_rfl) Try.func36 (by kernel_rfl) rfl (by kernel_rfl) ?_
       intro o1
       refine AW.kp [0, 1, 1001, 1004, 1006, 1008] [4, 72, 88] ⟨[(0, .arr 88 1), (1, .int .i64 1), (1001, .ref 4 1 0), (1004, .arr 72 1), (1006, .arr 88 1), (1008, .int .i64 1)], [(4, .box 1 [.data (.slice (.int .i64)) ((Graph.Rows aG) : List Int), .data (.slice (.named 0)) ((Graph.Edges aG) : List Edge)]), (72, .arr 1 (.int .i64) ((BestCosts (toGraph aG)) : List Int)), (88, .arr 1 (.int .i64) ((iBestCosts (Graph.mk (toIntS (Graph.Rows aG)) (toEdgeS (Graph.Edges aG)))) : List Int))]⟩ ?_
       refine AW.seq (AW.wf_arr (id := 72) (ep := 1) (t := (.int .i64)) (xs := ((BestCosts (toGraph aG)) : List Int)) (by kernel_rfl) fun ha1049 _ => ?_)
       replace ha1049 : ((List.length (BestCosts (toGraph aG)) : Nat) : Int) ≤ 4294967296 := ha1049
       refine AW.wf_arr (id := 88) (ep := 1) (t := (.int .i64)) (xs := ((iBestCosts (Graph.mk (toIntS (Graph.Rows aG)) (toEdgeS (Graph.Edges aG)))) : List Int)) (by kernel_rfl) fun ha1050 _ => ?_
       replace ha1050 : ((List.length (iBestCosts (Graph.mk (toIntS (Graph.Rows aG)) (toEdgeS (Graph.Edges aG)))) : Nat) : Int) ≤ 4294967296 := ha1050
       refine AW.r1 hC1 [0, 1, 1001, 1004, 1006, 1008] [4, 72, 88] ⟨[(0, .arr 88 1), (1, .int .i64 1), (1001, .ref 4 1 0), (1004, .arr 72 1), (1006, .arr 88 1), (1008, .int .i64 1)], [(4, .box 1 [.data (.slice (.int .i64)) ((Graph.Rows aG) : List Int), .data (.slice (.named 0)) ((Graph.Edges aG) : List Edge)]), (72, .arr 1 (.int .i64) ((BestCosts (toGraph aG)) : List Int)), (88, .arr 1 (.int .i64) ((iBestCosts (Graph.mk (toIntS (Graph.Rows aG)) (toEdgeS (Graph.Edges aG)))) : List Int))]⟩ ?_
       refine AW.seq (AW.seq (AW.wf_arr (id := 72) (ep := 1) (t := (.int .i64)) (xs := ((BestCosts (toGraph aG)) : List Int)) (by kernel_rfl) fun ha1051 _ => ?_))
       replace ha1051 : ((List.length (BestCosts (toGraph aG)) : Nat) : Int) ≤ 4294967296 := ha1051
       refine AW.wf_arr (id := 88) (ep := 1) (t := (.int .i64)) (xs := ((iBestCosts (Graph.mk (toIntS (Graph.Rows aG)) (toEdgeS (Graph.Edges aG)))) : List Int)) (by kernel_rfl) fun ha1052 _ => ?_
       replace ha1052 : ((List.length (iBestCosts (Graph.mk (toIntS (Graph.Rows aG)) (toEdgeS (Graph.Edges aG)))) : Nat) : Int) ≤ 4294967296 := ha1052
       refine AW.r1 hC1 [0, 1, 5, 1001, 1004, 1006, 1008] [4, 72, 88] ⟨[(0, .arr 88 1), (1, .int .i64 1), (5, .int .i64 0), (1001, .ref 4 1 0), (1004, .arr 72 1), (1006, .arr 88 1), (1008, .int .i64 1)], [(4, .box 1 [.data (.slice (.int .i64)) ((Graph.Rows aG) : List Int), .data (.slice (.named 0)) ((Graph.Edges aG) : List Edge)]), (72, .arr 1 (.int .i64) ((BestCosts (toGraph aG)) : List Int)), (88, .arr 1 (.int .i64) ((iBestCosts (Graph.mk (toIntS (Graph.Rows aG)) (toEdgeS (Graph.Edges aG)))) : List Int))]⟩ ?_
       refine AW.cutQ (α := Nat × (List Int)) (fun x => ⟨[(1, .int .i64 ((x.1 : Nat) : Int)), (1001, .ref 4 1 0), (1004, .arr 72 1), (1006, .arr 88 1), (1008, .int .i64 1)], [(4, .box 1 [.data (.slice (.int .i64)) ((Graph.Rows aG) : List Int), .data (.slice (.named 0)) ((Graph.Edges aG) : List Edge)]), (72, .arr 1 (.int .i64) ((BestCosts (toGraph aG)) : List Int)), (88, .arr 1 (.int .i64) (x.2 : List Int))]⟩) (fun x => ((1 ≤ x.1 ∧ x.1 ≤ 4294967297) ∧ List.length x.2 ≤ 4294967296) ∧ (FnExactBestCosts_l2 ((List.length (iBestCosts (Graph.mk (toIntS (Graph.Rows aG)) (toEdgeS (Graph.Edges aG))))) - 0 + 1) 1 0 (iBestCosts (Graph.mk (toIntS (Graph.Rows aG)) (toEdgeS (Graph.Edges aG))))) = x) ?_ ?_
       ·
        skip
        refine AW.block (AW.loop (α := Nat × Nat × (List Int)) (fun x => ⟨[(0, .arr 88 1), (1, .int .i64 ((x.1 : Nat) : Int)), (5, .int .i64 ((x.2.1 : Nat) : Int)), (1001, .ref 4 1 0), (1004, .arr 72 1), (1006, .arr 88 1), (1008, .int .i64 1)], [(4, .box 1 [.data (.slice (.int .i64)) ((Graph.Rows aG) : List Int), .data (.slice (.named 0)) ((Graph.Edges aG) : List Edge)]), (72, .arr 1 (.int .i64) ((BestCosts (toGraph aG)) : List Int)), (88, .arr 1 (.int .i64) (x.2.2 : List Int))]⟩) (fun x => ((1 ≤ x.1 ∧ x.1 ≤ 1 + 1 * x.2.1) ∧ (x.2.1 ≤ List.length x.2.2 ∧ List.length x.2.2 ≤ 4294967296)) ∧ ∃ k, (List.length x.2.2) - x.2.1 < k ∧ (FnExactBestCosts_l2 ((List.length (iBestCosts (Graph.mk (toIntS (Graph.Rows aG)) (toEdgeS (Graph.Edges aG))))) - 0 + 1) 1 0 (iBestCosts (Graph.mk (toIntS (Graph.Rows aG)) (toEdgeS (Graph.Edges aG))))) = FnExactBestCosts_l2 k x.1 x.2.1 x.2.2) (fun x => (List.length x.2.2) - x.2.1) (1, 0, (iBestCosts (Graph.mk (toIntS (Graph.Rows aG)) (toEdgeS (Graph.Edges aG))))) (by kernel_rfl) ⟨?_, _, Nat.lt_succ_self _, rfl⟩ ?_)
        ·
         show (1 ≤ 1 ∧ 1 ≤ 1 + 1 * 0) ∧ (0 ≤ List.length (iBestCosts (Graph.mk (toIntS (Graph.Rows aG)) (toEdgeS (Graph.Edges aG)))) ∧ List.length (iBestCosts (Graph.mk (toIntS (Graph.Rows aG)) (toEdgeS (Graph.Edges aG)))) ≤ 4294967296)
         exact ⟨⟨by omega, by omega⟩, by omega, by omega⟩
        ·
         intro x hR
         obtain ⟨k3, i, a1⟩ := x
         obtain ⟨hI2, k1091, hk1089, e1090⟩ := hR
         replace hI2 : (1 ≤ k3 ∧ k3 ≤ 1 + 1 * i) ∧ (i ≤ List.length a1 ∧ List.length a1 ≤ 4294967296) := hI2
         replace hk1089 : (List.length a1) - i < k1091 := hk1089
         obtain ⟨k1091q, rfl⟩ : ∃ k, k1091 = k + 1 := ⟨k1091 - 1, by omega⟩
         refine AW.seq (AW.seq (AW.wf_arr (id := 72) (ep := 1) (t := (.int .i64)) (xs := ((BestCosts (toGraph aG)) : List Int)) (by kernel_rfl) fun ha1092 _ => ?_))
         replace ha1092 : ((List.length (BestCosts (toGraph aG)) : Nat) : Int) ≤ 4294967296 := ha1092
         refine AW.wf_arr (id := 88) (ep := 1) (t := (.int .i64)) (xs := (a1 : List Int)) (by kernel_rfl) fun ha1093 _ => ?_
         replace ha1093 : ((List.length a1 : Nat) : Int) ≤ 4294967296 := ha1093
         refine AW.r1 hC1 [0, 1, 5, 9, 1001, 1004, 1006, 1008] [4, 72, 88] ⟨[(0, .arr 88 1), (1, .int .i64 ((k3 : Nat) : Int)), (5, .int .i64 ((i : Nat) : Int)), (9, .bool (decide (((i : Nat) : Int) < ((List.length a1 : Nat) : Int)))), (1001, .ref 4 1 0), (1004, .arr 72 1), (1006, .arr 88 1), (1008, .int .i64 1)], [(4, .box 1 [.data (.slice (.int .i64)) ((Graph.Rows aG) : List Int), .data (.slice (.named 0)) ((Graph.Edges aG) : List Edge)]), (72, .arr 1 (.int .i64) ((BestCosts (toGraph aG)) : List Int)), (88, .arr 1 (.int .i64) (a1 : List Int))]⟩ ?_
         refine AW.cd (decide (((i : Nat) : Int) < ((List.length a1 : Nat) : Int))) ?_ ?_
         ·
          intro h1094
          have h1094q : ((i : Nat) : Int) < ((List.length a1 : Nat) : Int) := (of_decide_eq_true h1094)
          have e1095 := e1090.trans (Go.Am.bif_t h1094)
          refine AW.kp [0, 1, 5, 1001, 1004, 1006, 1008] [4, 72, 88] ⟨[(0, .arr 88 1), (1, .int .i64 ((k3 : Nat) : Int)), (5, .int .i64 ((i : Nat) : Int)), (1001, .ref 4 1 0), (1004, .arr 72 1), (1006, .arr 88 1), (1008, .int .i64 1)], [(4, .box 1 [.data (.slice (.int .i64)) ((Graph.Rows aG) : List Int), .data (.slice (.named 0)) ((Graph.Edges aG) : List Edge)]), (72, .arr 1 (.int .i64) ((BestCosts (toGraph aG)) : List Int)), (88, .arr 1 (.int .i64) (a1 : List Int))]⟩ ?_
          refine AW.skip (AW.seq (AW.block (AW.seq (AW.wf_arr (id := 72) (ep := 1) (t := (.int .i64)) (xs := ((BestCosts (toGraph aG)) : List Int)) (by kernel_rfl) fun ha1096 _ => ?_))))
          replace ha1096 : ((List.length (BestCosts (toGraph aG)) : Nat) : Int) ≤ 4294967296 := ha1096
          refine AW.wf_arr (id := 88) (ep := 1) (t := (.int .i64)) (xs := (a1 : List Int)) (by kernel_rfl) fun ha1097 _ => ?_
          replace ha1097 : ((List.length a1 : Nat) : Int) ≤ 4294967296 := ha1097
          refine AW.r0 hC1 [0, 1, 5, 1001, 1004, 1006, 1008] [4, 72, 88] ⟨[(0, .arr 88 1), (1, .int .i64 ((k3 : Nat) : Int)), (5, .int .i64 ((i : Nat) : Int)), (1001, .ref 4 1 0), (1004, .arr 72 1), (1006, .arr 88 1), (1008, .int .i64 1)], [(4, .box 1 [.data (.slice (.int .i64)) ((Graph.Rows aG) : List Int), .data (.slice (.named 0)) ((Graph.Edges aG) : List Edge)]), (72, .arr 1 (.int .i64) ((BestCosts (toGraph aG)) : List Int)), (88, .arr 1 (.int .i64) ((List.set a1 i ((k3 : Nat) : Int)) : List Int))]⟩ [(0 ≤ ((i : Nat) : Int) ∧ ((i : Nat) : Int) < ((List.length a1 : Nat) : Int))] ?_ ?_
          ·
           refine ⟨?_, trivial⟩
           ·
            first | omega | (dsimp only; omega) | (simp only [lens] at *; omega)
          refine AW.wf_arr (id := 72) (ep := 1) (t := (.int .i64)) (xs := ((BestCosts (toGraph aG)) : List Int)) (by kernel_rfl) fun ha1098 _ => ?_
          replace ha1098 : ((List.length (BestCosts (toGraph aG)) : Nat) : Int) ≤ 4294967296 := ha1098
          refine AW.wf_arr (id := 88) (ep := 1) (t := (.int .i64)) (xs := ((List.set a1 i ((k3 : Nat) : Int)) : List Int)) (by kernel_rfl) fun ha1099 _ => ?_
          replace ha1099 : ((List.length (List.set a1 i ((k3 : Nat) : Int)) : Nat) : Int) ≤ 4294967296 := ha1099
          refine AW.r0 hC1 [0, 1, 5, 1001, 1004, 1006, 1008] [4, 72, 88] ⟨[(0, .arr 88 1), (1, .int .i64 ((k3 + 1 : Nat) : Int)), (5, .int .i64 ((i : Nat) : Int)), (1001, .ref 4 1 0), (1004, .arr 72 1), (1006, .arr 88 1), (1008, .int .i64 1)], [(4, .box 1 [.data (.slice (.int .i64)) ((Graph.Rows aG) : List Int), .data (.slice (.named 0)) ((Graph.Edges aG) : List Edge)]), (72, .arr 1 (.int .i64) ((BestCosts (toGraph aG)) : List Int)), (88, .arr 1 (.int .i64) ((List.set a1 i ((k3 : Nat) : Int)) : List Int))]⟩ [(-9223372036854775808 ≤ ((k3 + 1 : Nat) : Int) ∧ ((k3 + 1 : Nat) : Int) ≤ 9223372036854775807)] ?_ ?_
          ·
           refine ⟨?_, trivial⟩
           ·
            first | omega | (dsimp only; omega) | (simp only [lens] at *; omega)
          refine AW.wf_arr (id := 72) (ep := 1) (t := (.int .i64)) (xs := ((BestCosts (toGraph aG)) : List Int)) (by kernel_rfl) fun ha1100 _ => ?_
          replace ha1100 : ((List.length (BestCosts (toGraph aG)) : Nat) : Int) ≤ 4294967296 := ha1100
          refine AW.wf_arr (id := 88) (ep := 1) (t := (.int .i64)) (xs := ((List.set a1 i ((k3 : Nat) : Int)) : List Int)) (by kernel_rfl) fun ha1101 _ => ?_
          replace ha1101 : ((List.length (List.set a1 i ((k3 : Nat) : Int)) : Nat) : Int) ≤ 4294967296 := ha1101
          refine AW.r0 hC1 [0, 1, 5, 1001, 1004, 1006, 1008] [4, 72, 88] ⟨[(0, .arr 88 1), (1, .int .i64 ((k3 + 1 : Nat) : Int)), (5, .int .i64 ((i + 1 : Nat) : Int)), (1001, .ref 4 1 0), (1004, .arr 72 1), (1006, .arr 88 1), (1008, .int .i64 1)], [(4, .box 1 [.data (.slice (.int .i64)) ((Graph.Rows aG) : List Int), .data (.slice (.named 0)) ((Graph.Edges aG) : List Edge)]), (72, .arr 1 (.int .i64) ((BestCosts (toGraph aG)) : List Int)), (88, .arr 1 (.int .i64) ((List.set a1 i ((k3 : Nat) : Int)) : List Int))]⟩ [(-9223372036854775808 ≤ ((i + 1 : Nat) : Int) ∧ ((i + 1 : Nat) : Int) ≤ 9223372036854775807)] ?_ ?_
          ·
           refine ⟨?_, trivial⟩
           ·
            first | omega | (dsimp only; omega) | (simp only [lens] at *; omega)
          refine AW.back (x := (k3, i, a1)) (k3 + 1, i + 1, (List.set a1 i ((k3 : Nat) : Int))) (by kernel_rfl) ⟨?_, k1091q, ?_, e1095⟩ ?_
          ·
           show (1 ≤ (k3 + 1) ∧ (k3 + 1) ≤ 1 + 1 * (i + 1)) ∧ ((i + 1) ≤ List.length (List.set a1 i ((k3 : Nat) : Int)) ∧ List.length (List.set a1 i ((k3 : Nat) : Int)) ≤ 4294967296)
           simp only [List.length_set] at *
           omega
          ·
           show (List.length (List.set a1 i ((k3 : Nat) : Int))) - (i + 1) < k1091q
           first | omega | (simp only [lens]; omega)
          ·
           show (List.length (List.set a1 i ((k3 : Nat) : Int))) - (i + 1) < (List.length a1) - i
           first | omega | (simp only [lens]; omega)
         ·
          intro h1102
          have h1102q : ¬ (((i : Nat) : Int) < ((List.length a1 : Nat) : Int)) := (of_decide_eq_false h1102)
          have e1103 := e1090.trans (Go.Am.bif_f h1102)
          refine AW.kp [1, 1001, 1004, 1006, 1008] [4, 72, 88] ⟨[(1, .int .i64 ((k3 : Nat) : Int)), (1001, .ref 4 1 0), (1004, .arr 72 1), (1006, .arr 88 1), (1008, .int .i64 1)], [(4, .box 1 [.data (.slice (.int .i64)) ((Graph.Rows aG) : List Int), .data (.slice (.named 0)) ((Graph.Edges aG) : List Edge)]), (72, .arr 1 (.int .i64) ((BestCosts (toGraph aG)) : List Int)), (88, .arr 1 (.int .i64) (a1 : List Int))]⟩ ?_
          refine AW.exit ?_
          refine AW.meet (k3, a1) (by kernel_rfl) ⟨?_, e1103⟩
          show (1 ≤ k3 ∧ k3 ≤ 4294967297) ∧ List.length a1 ≤ 4294967296
          omega
       ·
        intro x hR
        obtain ⟨k3, a1⟩ := x
        obtain ⟨hJ2, e1104⟩ := hR
        replace hJ2 : (1 ≤ k3 ∧ k3 ≤ 4294967297) ∧ List.length a1 ≤ 4294967296 := hJ2
        have e1105 := e985.trans (Go.Am.then_eq e1104)
        refine AW.seq (AW.wf_arr (id := 72) (ep := 1) (t := (.int .i64)) (xs := ((BestCosts (toGraph aG)) : List Int)) (by kernel_rfl) fun ha1106 _ => ?_)
        replace ha1106 : ((List.length (BestCosts (toGraph aG)) : Nat) : Int) ≤ 4294967296 := ha1106
        refine AW.wf_arr (id := 88) (ep := 1) (t := (.int .i64)) (xs := (a1 : List Int)) (by kernel_rfl) fun ha1107 _ => ?_
        replace ha1107 : ((List.length a1 : Nat) : Int) ≤ 4294967296 := ha1107
        refine AW.r1 hC1 [4, 1001, 1004, 1006, 1008] [4, 72, 88] ⟨[(4, .int .i64 ((k3 : Nat) : Int)), (1001, .ref 4 1 0), (1004, .arr 72 1), (1006, .arr 88 1), (1008, .int .i64 1)], [(4, .box 1 [.data (.slice (.int .i64)) ((Graph.Rows aG) : List Int), .data (.slice (.named 0)) ((Graph.Edges aG) : List Edge)]), (72, .arr 1 (.int .i64) ((BestCosts (toGraph aG)) : List Int)), (88, .arr 1 (.int .i64) (a1 : List Int))]⟩ ?_
        refine AW.ret ?_
        refine ⟨[.int .i64 ((k3 : Nat) : Int)], by kernel_rfl, ?_⟩
        refine AWO.keep [1, 4, 6, 8, 45] [4, 72, 88] ⟨[(1, .ref 4 1 0), (4, .arr 72 1), (6, .arr 88 1), (8, .int .i64 1), (45, .int .i64 ((k3 : Nat) : Int))], [(4, .box 1 [.data (.slice (.int .i64)) ((Graph.Rows aG) : List Int), .data (.slice (.named 0)) ((Graph.Edges aG) : List Edge)]), (72, .arr 1 (.int .i64) ((BestCosts (toGraph aG)) : List Int)), (88, .arr 1 (.int .i64) (a1 : List Int))]⟩ (by kernel_rfl) ?_
        refine AWO.run hC false [] [3] [] [1, 4, 6, 8] [4, 72, 88]
         ⟨[(1, .ref 4 1 0), (4, .arr 72 1), (6, .arr 88 1), (8, .int .i64 ((k3 : Nat) : Int))], [(4, .box 1 [.data (.slice (.int .i64)) ((Graph.Rows aG) : List Int), .data (.slice (.named 0)) ((Graph.Edges aG) : List Edge)]), (72, .arr 1 (.int .i64) ((BestCosts (toGraph aG)) : List Int)), (88, .arr 1 (.int .i64) (a1 : List Int))]⟩
         [] (by rfl) (by kernel_rfl) ?_ ?_
        ·
         exact trivial
        refine AWO.nil ?_
        refine AW.seq (AW.wf_arr (id := 72) (ep := 1) (t := (.int .i64)) (xs := ((BestCosts (toGraph aG)) : List Int)) (by kernel_rfl) fun ha1108 _ => ?_)
        replace ha1108 : ((List.length (BestCosts (toGraph aG)) : Nat) : Int) ≤ 4294967296 := ha1108
        refine AW.wf_arr (id := 88) (ep := 1) (t := (.int .i64)) (xs := (a1 : List Int)) (by kernel_rfl) fun ha1109 _ => ?_
        replace ha1109 : ((List.length a1 : Nat) : Int) ≤ 4294967296 := ha1109
        refine AW.r1 hC [1, 4, 6, 8, 9] [4, 72, 88] ⟨[(1, .ref 4 1 0), (4, .arr 72 1), (6, .arr 88 1), (8, .int .i64 ((k3 : Nat) : Int)), (9, .int .i64 1)], [(4, .box 1 [.data (.slice (.int .i64)) ((Graph.Rows aG) : List Int), .data (.slice (.named 0)) ((Graph.Edges aG) : List Edge)]), (72, .arr 1 (.int .i64) ((BestCosts (toGraph aG)) : List Int)), (88, .arr 1 (.int .i64) (a1 : List Int))]⟩ ?_
        refine AW.seq (AW.wf_arr (id := 72) (ep := 1) (t := (.int .i64)) (xs := ((BestCosts (toGraph aG)) : List Int)) (by kernel_rfl) fun ha1110 _ => ?_)
        replace ha1110 : ((List.length (BestCosts (toGraph aG)) : Nat) : Int) ≤ 4294967296 := ha1110
        refine AW.wf_arr (id := 88) (ep := 1) (t := (.int .i64)) (xs := (a1 : List Int)) (by kernel_rfl) fun ha1111 _ => ?_
        replace ha1111 : ((List.length a1 : Nat) : Int) ≤ 4294967296 := ha1111
        refine AW.r0 hC [1, 4, 6, 8, 9] [4, 72, 88] ⟨[(1, .ref 4 1 0), (4, .arr 72 1), (6, .arr 88 1), (8, .int .i64 ((k3 : Nat) : Int)), (9, .int .i64 (heldIntS a1 1))], [(4, .box 1 [.data (.slice (.int .i64)) ((Graph.Rows aG) : List Int), .data (.slice (.named 0)) ((Graph.Edges aG) : List Edge)]), (72, .arr 1 (.int .i64) ((BestCosts (toGraph aG)) : List Int)), (88, .arr 1 (.int .i64) (a1 : List Int))]⟩ [((0 ≤ (1 : Int) ∧ (1 : Int) ≤ 1099511627776) ∧ (List.length a1 : Int) ≤ 4294967296)] ?_ ?_
        ·
         refine ⟨?_, trivial⟩
         ·
          first | omega | (dsimp only; omega) | (simp only [lens] at *; omega)
        refine AW.seq (AW.seq (AW.wf_arr (id := 72) (ep := 1) (t := (.int .i64)) (xs := ((BestCosts (toGraph aG)) : List Int)) (by kernel_rfl) fun ha1112 _ => ?_))
        replace ha1112 : ((List.length (BestCosts (toGraph aG)) : Nat) : Int) ≤ 4294967296 := ha1112
        refine AW.wf_arr (id := 88) (ep := 1) (t := (.int .i64)) (xs := (a1 : List Int)) (by kernel_rfl) fun ha1113 _ => ?_
        replace ha1113 : ((List.length a1 : Nat) : Int) ≤ 4294967296 := ha1113
        refine AW.r1 hC [1, 4, 6, 8, 9, 50] [4, 72, 88] ⟨[(1, .ref 4 1 0), (4, .arr 72 1), (6, .arr 88 1), (8, .int .i64 ((k3 : Nat) : Int)), (9, .int .i64 (heldIntS a1 1)), (50, .bool (decide ((heldIntS a1 1) < 0)))], [(4, .box 1 [.data (.slice (.int .i64)) ((Graph.Rows aG) : List Int), .data (.slice (.named 0)) ((Graph.Edges aG) : List Edge)]), (72, .arr 1 (.int .i64) ((BestCosts (toGraph aG)) : List Int)), (88, .arr 1 (.int .i64) (a1 : List Int))]⟩ ?_
        refine AW.cd (decide ((heldIntS a1 1) < 0)) ?_ ?_
        ·
         intro h1114
         have h1114q : (heldIntS a1 1) < 0 := (of_decide_eq_true h1114)
         have e1115 := e1105.trans (Go.Am.bif_t h1114)
         refine AW.seq (AW.wf_arr (id := 72) (ep := 1) (t := (.int .i64)) (xs := ((BestCosts (toGraph aG)) : List Int)) (by kernel_rfl) fun ha1116 _ => ?_)
         replace ha1116 : ((List.length (BestCosts (toGraph aG)) : Nat) : Int) ≤ 4294967296 := ha1116
         refine AW.wf_arr (id := 88) (ep := 1) (t := (.int .i64)) (xs := (a1 : List Int)) (by kernel_rfl) fun ha1117 _ => ?_
         replace ha1117 : ((List.length a1 : Nat) : Int) ≤ 4294967296 := ha1117
         refine AW.r1 hC [2] [] ⟨[(2, .bool false)], []⟩ ?_
         exact AW.ret (AW.retE (β := Bool) (fun v => [⟨.bool, v⟩]) (fun v => []) (v := false) e1115 (by kernel_rfl) rfl rfl)
        ·
         intro h1118
         have h1118q : ¬ ((heldIntS a1 1) < 0) := (of_decide_eq_false h1118)
         have e1119 := e1105.trans (Go.Am.bif_f h1118)
         refine AW.kp [1, 4, 6, 8, 9] [4, 72, 88] ⟨[(1, .ref 4 1 0), (4, .arr 72 1), (6, .arr 88 1), (8, .int .i64 ((k3 : Nat) : Int)), (9, .int .i64 (heldIntS a1 1))], [(4, .box 1 [.data (.slice (.int .i64)) ((Graph.Rows aG) : List Int), .data (.slice (.named 0)) ((Graph.Edges aG) : List Edge)]), (72, .arr 1 (.int .i64) ((BestCosts (toGraph aG)) : List Int)), (88, .arr 1 (.int .i64) (a1 : List Int))]⟩ ?_
         refine AW.skip (AW.seq (AW.seq (AW.wf_arr (id := 72) (ep := 1) (t := (.int .i64)) (xs := ((BestCosts (toGraph aG)) : List Int)) (by kernel_rfl) fun ha1120 _ => ?_)))
         replace ha1120 : ((List.length (BestCosts (toGraph aG)) : Nat) : Int) ≤ 4294967296 := ha1120
         refine AW.wf_arr (id := 88) (ep := 1) (t := (.int .i64)) (xs := (a1 : List Int)) (by kernel_rfl) fun ha1121 _ => ?_
         replace ha1121 : ((List.length a1 : Nat) : Int) ≤ 4294967296 := ha1121
         refine AW.r1 hC [1, 4, 6, 8, 53] [4, 72, 88] ⟨[(1, .ref 4 1 0), (4, .arr 72 1), (6, .arr 88 1), (8, .int .i64 ((k3 : Nat) : Int)), (53, .bool ((heldIntS a1 1) != ((k3 : Nat) : Int)))], [(4, .box 1 [.data (.slice (.int .i64)) ((Graph.Rows aG) : List Int), .data (.slice (.named 0)) ((Graph.Edges aG) : List Edge)]), (72, .arr 1 (.int .i64) ((BestCosts (toGraph aG)) : List Int)), (88, .arr 1 (.int .i64) (a1 : List Int))]⟩ ?_
         refine AW.cd ((heldIntS a1 1) != ((k3 : Nat) : Int)) ?_ ?_
         ·
          intro h1122
          have h1122q : (heldIntS a1 1) ≠ ((k3 : Nat) : Int) := (Go.Am.bne_pos h1122)
          have e1123 := e1119.trans (Go.Am.bif_t h1122)
          refine AW.seq (AW.wf_arr (id := 72) (ep := 1) (t := (.int .i64)) (xs := ((BestCosts (toGraph aG)) : List Int)) (by kernel_rfl) fun ha1124 _ => ?_)
          replace ha1124 : ((List.length (BestCosts (toGraph aG)) : Nat) : Int) ≤ 4294967296 := ha1124
          refine AW.wf_arr (id := 88) (ep := 1) (t := (.int .i64)) (xs := (a1 : List Int)) (by kernel_rfl) fun ha1125 _ => ?_
          replace ha1125 : ((List.length a1 : Nat) : Int) ≤ 4294967296 := ha1125
          refine AW.r1 hC [2] [] ⟨[(2, .bool false)], []⟩ ?_
          exact AW.ret (AW.retE (β := Bool) (fun v => [⟨.bool, v⟩]) (fun v => []) (v := false) e1123 (by kernel_rfl) rfl rfl)
         ·
          intro h1126
          have h1126q : (heldIntS a1 1) = ((k3 : Nat) : Int) := (Go.Am.bne_neg h1126)
          have e1127 := e1119.trans (Go.Am.bif_f h1126)
          refine AW.kp [1, 4, 6, 8] [4, 72, 88] ⟨[(1, .ref 4 1 0), (4, .arr 72 1), (6, .arr 88 1), (8, .int .i64 ((k3 : Nat) : Int))], [(4, .box 1 [.data (.slice (.int .i64)) ((Graph.Rows aG) : List Int), .data (.slice (.named 0)) ((Graph.Edges aG) : List Edge)]), (72, .arr 1 (.int .i64) ((BestCosts (toGraph aG)) : List Int)), (88, .arr 1 (.int .i64) (a1 : List Int))]⟩ ?_
          refine AW.skip (AW.seq (AW.wf_arr (id := 72) (ep := 1) (t := (.int .i64)) (xs := ((BestCosts (toGraph aG)) : List Int)) (by kernel_rfl) fun ha1128 _ => ?_))
          replace ha1128 : ((List.length (BestCosts (toGraph aG)) : Nat) : Int) ≤ 4294967296 := ha1128
          refine AW.wf_arr (id := 88) (ep := 1) (t := (.int .i64)) (xs := (a1 : List Int)) (by kernel_rfl) fun ha1129 _ => ?_
          replace ha1129 : ((List.length a1 : Nat) : Int) ≤ 4294967296 := ha1129
          refine AW.r0 hC [4, 6, 8, 10] [72, 88, 224] ⟨[(4, .arr 72 1), (6, .arr 88 1), (8, .int .i64 ((k3 : Nat) : Int)), (10, .arr 224 1)], [(72, .arr 1 (.int .i64) ((BestCosts (toGraph aG)) : List Int)), (88, .arr 1 (.int .i64) (a1 : List Int)), (224, .arr 1 (.int .i64) ((iBestCosts (toGraph aG)) : List Int))]⟩ [((List.length aG.Rows : Int) ≤ 1048576 ∧ (List.length aG.Edges : Int) ≤ 1048576), (True)] ?_ ?_
          ·
           refine ⟨?_, ?_, trivial⟩
           ·
            first | omega | exact szGraph_le (by assumption) | exact (szGraph_le (by assumption)).1 | exact (szGraph_le (by assumption)).2
           ·
            trivial
          refine AW.seq (AW.seq (AW.wf_arr (id := 72) (ep := 1) (t := (.int .i64)) (xs := ((BestCosts (toGraph aG)) : List Int)) (by kernel_rfl) fun ha1130 _ => ?_))
          replace ha1130 : ((List.length (BestCosts (toGraph aG)) : Nat) : Int) ≤ 4294967296 := ha1130
          refine AW.wf_arr (id := 88) (ep := 1) (t := (.int .i64)) (xs := (a1 : List Int)) (by kernel_rfl) fun ha1131 _ => ?_
          replace ha1131 : ((List.length a1 : Nat) : Int) ≤ 4294967296 := ha1131
          refine AW.wf_arr (id := 224) (ep := 1) (t := (.int .i64)) (xs := ((iBestCosts (toGraph aG)) : List Int)) (by kernel_rfl) fun ha1132 _ => ?_
          replace ha1132 : ((List.length (iBestCosts (toGraph aG)) : Nat) : Int) ≤ 4294967296 := ha1132
          refine AW.r0 hC [6, 8, 60] [88] ⟨[(6, .arr 88 1), (8, .int .i64 ((k3 : Nat) : Int)), (60, .bool (!(eqIntS (iBestCosts (toGraph aG)) (BestCosts (toGraph aG)))))], [(88, .arr 1 (.int .i64) (a1 : List Int))]⟩ [(True)] ?_ ?_
          ·
           refine ⟨?_, trivial⟩
           ·
            trivial
          refine AW.cd (!(eqIntS (iBestCosts (toGraph aG)) (BestCosts (toGraph aG)))) ?_ ?_
          ·
           intro h1133
           have h1133q : (eqIntS (iBestCosts (toGraph aG)) (BestCosts (toGraph aG))) = false := (Go.Am.not_pos h1133)
           have e1134 := e1127.trans (Go.Am.bif_t h1133)
           refine AW.seq (AW.wf_arr (id := 88) (ep := 1) (t := (.int .i64)) (xs := (a1 : List Int)) (by kernel_rfl) fun ha1135 _ => ?_)
           replace ha1135 : ((List.length a1 : Nat) : Int) ≤ 4294967296 := ha1135
           refine AW.r1 hC [2] [] ⟨[(2, .bool false)], []⟩ ?_
           exact AW.ret (AW.retE (β := Bool) (fun v => [⟨.bool, v⟩]) (fun v => []) (v := false) e1134 (by kernel_rfl) rfl rfl)
          ·
           intro h1136
           have h1136q : (eqIntS (iBestCosts (toGraph aG)) (BestCosts (toGraph aG))) = true := (Go.Am.not_neg h1136)
           have e1137 := e1127.trans (Go.Am.bif_f h1136)
           refine AW.kp [6, 8] [88] ⟨[(6, .arr 88 1), (8, .int .i64 ((k3 : Nat) : Int))], [(88, .arr 1 (.int .i64) (a1 : List Int))]⟩ ?_
           refine AW.skip (AW.seq (AW.wf_arr (id := 88) (ep := 1) (t := (.int .i64)) (xs := (a1 : List Int)) (by kernel_rfl) fun ha1138 _ => ?_))
           replace ha1138 : ((List.length a1 : Nat) : Int) ≤ 4294967296 := ha1138
           refine AW.r1 hC [6, 8, 9] [88] ⟨[(6, .arr 88 1), (8, .int .i64 ((k3 : Nat) : Int)), (9, .int .i64 1)], [(88, .arr 1 (.int .i64) (a1 : List Int))]⟩ ?_
           refine AW.seq (AW.wf_arr (id := 88) (ep := 1) (t := (.int .i64)) (xs := (a1 : List Int)) (by kernel_rfl) fun ha1139 _ => ?_)
           replace ha1139 : ((List.length a1 : Nat) : Int) ≤ 4294967296 := ha1139
           refine AW.r0 hC [8, 9] [] ⟨[(8, .int .i64 ((k3 : Nat) : Int)), (9, .int .i64 (heldIntS a1 1))], []⟩ [((0 ≤ (1 : Int) ∧ (1 : Int) ≤ 1099511627776) ∧ (List.length a1 : Int) ≤ 4294967296)] ?_ ?_
           ·
            refine ⟨?_, trivial⟩
            ·
             first | omega | (dsimp only; omega) | (simp only [lens] at *; omega)
           refine AW.seq (AW.seq (AW.r1 hC [8, 9, 65] [] ⟨[(8, .int .i64 ((k3 : Nat) : Int)), (9, .int .i64 (heldIntS a1 1)), (65, .bool (decide ((heldIntS a1 1) < 0)))], []⟩ ?_))
           refine AW.cd (decide ((heldIntS a1 1) < 0)) ?_ ?_
           ·
            intro h1140
            have h1140q : (heldIntS a1 1) < 0 := (of_decide_eq_true h1140)
            have e1141 := e1137.trans (Go.Am.bif_t h1140)
            refine AW.seq (AW.r1 hC [2] [] ⟨[(2, .bool false)], []⟩ ?_)
            exact AW.ret (AW.retE (β := Bool) (fun v => [⟨.bool, v⟩]) (fun v => []) (v := false) e1141 (by kernel_rfl) rfl rfl)
           ·
            intro h1142
            have h1142q : ¬ ((heldIntS a1 1) < 0) := (of_decide_eq_false h1142)
            have e1143 := e1137.trans (Go.Am.bif_f h1142)
            refine AW.kp [8, 9] [] ⟨[(8, .int .i64 ((k3 : Nat) : Int)), (9, .int .i64 (heldIntS a1 1))], []⟩ ?_
            refine AW.skip (AW.seq (AW.seq (AW.r1 hC [68] [] ⟨[(68, .bool ((heldIntS a1 1) != ((k3 : Nat) : Int)))], []⟩ ?_)))
            refine AW.cd ((heldIntS a1 1) != ((k3 : Nat) : Int)) ?_ ?_
            ·
             intro h1144
             have h1144q : (heldIntS a1 1) ≠ ((k3 : Nat) : Int) := (Go.Am.bne_pos h1144)
             have e1145 := e1143.trans (Go.Am.bif_t h1144)
             refine AW.seq (AW.r1 hC [2] [] ⟨[(2, .bool false)], []⟩ ?_)
             exact AW.ret (AW.retE (β := Bool) (fun v => [⟨.bool, v⟩]) (fun v => []) (v := false) e1145 (by kernel_rfl) rfl rfl)
            ·
             intro h1146
             have h1146q : (heldIntS a1 1) = ((k3 : Nat) : Int) := (Go.Am.bne_neg h1146)
             have e1147 := e1143.trans (Go.Am.bif_f h1146)
             refine AW.kp [] [] ⟨[], []⟩ ?_
             refine AW.skip (AW.seq (AW.r1 hC [2] [] ⟨[(2, .bool true)], []⟩ ?_))
             exact AW.ret (AW.retE (β := Bool) (fun v => [⟨.bool, v⟩]) (fun v => []) (v := true) e1147 (by kernel_rfl) rfl rfl)

end
end Go.Proofs.Ytpoohhjlpepmfaa
