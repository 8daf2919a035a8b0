/-
  A part of the proof of this claim (AjK): what functions of the program compute, and plain facts of that. No conditions.
-/
import Derived.Test.YtpoohhjlpepmfaaAjJ
set_option linter.all false
namespace Go.Proofs.Ytpoohhjlpepmfaa
open Go Go.Am
noncomputable section

theorem len32 {g : Graph} (h : VG g) {l : List Int} (hl : ((List.length l : Nat) : Int) = 1 * 2 ^ (List.length (Graph.Rows g))) : 2 ≤ l.length ∧ l.length ≤ 32 := by
 have := gAll_b h
 unfold gAll at this
 omega

def iCheckCosts_l1 (g : Graph) (costs : List Int) (mask : Nat) : List Int → Bool → Bool ⊕ Bool
 | [], reached => .inl reached
 | v50 :: l, reached => (bif (decide ((IntKind.wrap .i64 ((List.getD costs (Int.toNat v50) 0) + (List.getD costs (Int.toNat (bits .andNot .i64 ((mask : Nat) : Int) v50)) 0))) < (IntKind.wrap .i64 ((List.getD costs mask 0) - (gSize g ((mask : Nat) : Int)))))) then (.inr false) else (iCheckCosts_l1 g costs mask l (bif reached then true else ((IntKind.wrap .i64 ((List.getD costs mask 0) - (gSize g ((mask : Nat) : Int)))) == (IntKind.wrap .i64 ((List.getD costs (Int.toNat v50) 0) + (List.getD costs (Int.toNat (bits .andNot .i64 ((mask : Nat) : Int) v50)) 0)))))))

def iCheckCosts_l0 (g : Graph) (costs : List Int) : Nat → Nat → Unit ⊕ Bool
 | 0, mask => .inl ()
 | k + 1, mask => (bif (decide (((mask : Nat) : Int) ≤ (gAll g))) then (bif ((bits .and .i64 ((mask : Nat) : Int) (((mask : Nat) : Int) - 1)) == 0) then (bif ((List.getD costs mask 0) != 0) then (.inr false) else (iCheckCosts_l0 g costs k (mask + 1))) else (Sum.elim (fun z => (fun (reached : Bool) => (bif (!reached) then (.inr false) else (iCheckCosts_l0 g costs k (mask + 1)))) z) (fun r => (.inr r)) (iCheckCosts_l1 g costs mask (parts ((mask : Nat) : Int)) false))) else (.inl ()))

def iCheckCosts (g : Graph) (costs : List Int) : Bool := (bif (bif (bif (!(ValidGraph g)) then true else (((List.length costs : Nat) : Int) != ((gAll g) + 1))) then true else ((List.getD costs 0 0) != 0)) then false else (Sum.elim (fun _ => true) (fun r => r) (iCheckCosts_l0 g costs (Int.toNat (gAll g + 1 - (1 : Int)) + 1) 1)))

def iCheckCosts_sp : FnSpec := mkSpec [.val (.named 1), .val (.slice (.int .i64))] [.val .bool] (fun (g : Graph) (costs : List Int) => True) (fun (g : Graph) (costs : List Int) => [⟨.bool, (iCheckCosts g costs)⟩])

theorem iCheckCosts_ok : FnOK Try.prog 29 iCheckCosts_sp := by
 have hC : CtxOK Try.prog (mkCtx tyL [(42, ValidGraph_sp), (52, gAll_sp), (53, gSize_sp)]) := CtxOK.cons ValidGraph_ok (CtxOK.cons gAll_ok (CtxOK.cons gSize_ok (CtxOK.nil tyOK)))
 have hM : Try.prog.follows .mixedOrders = true := Try.checked.mixed
 have hC1 := hC.rebase 1000
 refine FnOK.of_bodyR Try.func29 (by kernel_rfl) rfl (C := (mkCtx tyL [(42, ValidGraph_sp), (52, gAll_sp), (53, gSize_sp)])) hC.ty (by kernel_rfl) ?_
 intro (g : Graph) (costs : List Int) hwf hpre E hro
 have hpre : True := hpre
 have hw_g : Wf ⟨(.named 1), (g : Graph)⟩ := hwf _ (List.Mem.head _)
 have hl_g_Rows : ((List.length (Graph.Rows g) : Nat) : Int) ≤ 9223372036854775807 := (hw_g.field (tv := ⟨(.slice (.int .i64)), Graph.Rows g⟩) (List.Mem.head _)).len
 have hl_g_Edges : ((List.length (Graph.Edges g) : Nat) : Int) ≤ 9223372036854775807 := (hw_g.field (tv := ⟨(.slice (.named 0)), Graph.Edges g⟩) (List.Mem.tail _ (List.Mem.head _))).len
 have hw_costs : Wf ⟨(.slice (.int .i64)), (costs : List Int)⟩ := hwf _ (List.Mem.tail _ (List.Mem.head _))
 have hl_costs : ((List.length costs : Nat) : Int) ≤ 9223372036854775807 := hw_costs.len
 have e0 : iCheckCosts g costs = iCheckCosts g costs := rfl
 refine AW.seq (AW.r1 hC [2, 3, 4] [8, 12, 16] ⟨[(2, .ref 8 1 0), (3, .ref 12 1 0), (4, .ref 16 1 0)], [(8, .box 1 [.data (.slice (.int .i64)) ((Graph.Rows g) : List Int), .data (.slice (.named 0)) ((Graph.Edges g) : List Edge)]), (12, .box 1 [.data (.slice (.int .i64)) (costs : List Int)]), (16, .box 1 [.bool false])]⟩ ?_)
 refine AW.seq (AW.seq (AW.d0 hC hM [2, 3, 4, 25] [8, 12, 16] ⟨[(2, .ref 8 1 0), (3, .ref 12 1 0), (4, .ref 16 1 0), (25, .bool (bif (bif (!(ValidGraph g)) then true else (((List.length costs : Nat) : Int) != ((gAll g) + 1))) then true else ((List.getD costs 0 0) != 0)))], [(8, .box 1 [.data (.slice (.int .i64)) ((Graph.Rows g) : List Int), .data (.slice (.named 0)) ((Graph.Edges g) : List Edge)]), (12, .box 1 [.data (.slice (.int .i64)) (costs : List Int)]), (16, .box 1 [.bool false])]⟩ [(True), (((!(ValidGraph g)) = false) → (((!(ValidGraph g)) = false))), (((!(ValidGraph g)) = false) → (g.Rows.length ≤ 40)), (((!(ValidGraph g)) = false) → (((!(ValidGraph g)) = false))), (((!(ValidGraph g)) = false) → (-9223372036854775808 ≤ ((gAll g) + 1) ∧ ((gAll g) + 1) ≤ 9223372036854775807)), (((!(ValidGraph g)) = false) → (((!(ValidGraph g)) = false))), (((!(ValidGraph g)) = false) → (((!(ValidGraph g)) = false))), (((!(ValidGraph g)) = false) → (((!(ValidGraph g)) = false))), (((bif (!(ValidGraph g)) then true else (((List.length costs : Nat) : Int) != ((gAll g) + 1))) = false) → (((bif (!(ValidGraph g)) then true else (((List.length costs : Nat) : Int) != ((gAll g) + 1))) = false))), (((bif (!(ValidGraph g)) then true else (((List.length costs : Nat) : Int) != ((gAll g) + 1))) = false) → (0 ≤ (0 : Int) ∧ (0 : Int) < ((List.length costs : Nat) : Int))), (((bif (!(ValidGraph g)) then true else (((List.length costs : Nat) : Int) != ((gAll g) + 1))) = false) → (((bif (!(ValidGraph g)) then true else (((List.length costs : Nat) : Int) != ((gAll g) + 1))) = false))), (((bif (!(ValidGraph g)) then true else (((List.length costs : Nat) : Int) != ((gAll g) + 1))) = false) → (((bif (!(ValidGraph g)) then true else (((List.length costs : Nat) : Int) != ((gAll g) + 1))) = false))), (((bif (!(ValidGraph g)) then true else (((List.length costs : Nat) : Int) != ((gAll g) + 1))) = false) → (((bif (!(ValidGraph g)) then true else (((List.length costs : Nat) : Int) != ((gAll g) + 1))) = false)))] ?_ ?_))
 ·
  refine ⟨?_, ?_, ?_, ?_, ?_, ?_, ?_, ?_, ?_, ?_, ?_, ?_, ?_, trivial⟩
  ·
   trivial
  ·
   intro g1
   have g1p0 : (ValidGraph g) = true := (Go.Am.not_neg g1)
   assumption
  ·
   intro g2
   have g2p0 : (ValidGraph g) = true := (Go.Am.not_neg g2)
   exact Nat.le_trans (ValidGraph_iff.1 g2p0).n5 (by decide)
  ·
   intro g3
   have g3p0 : (ValidGraph g) = true := (Go.Am.not_neg g3)
   assumption
  ·
   intro g4
   have g4p0 : (ValidGraph g) = true := (Go.Am.not_neg g4)
   have := gAll_b (ValidGraph_iff.1 g4p0)
   omega
  ·
   intro g5
   have g5p0 : (ValidGraph g) = true := (Go.Am.not_neg g5)
   assumption
  ·
   intro g6
   have g6p0 : (ValidGraph g) = true := (Go.Am.not_neg g6)
   assumption
  ·
   intro g7
   have g7p0 : (ValidGraph g) = true := (Go.Am.not_neg g7)
   assumption
  ·
   intro g8
   have g8p0 : ((ValidGraph g) = true) ∧ (((List.length costs : Nat) : Int) = ((gAll g) + 1)) := (And.imp (fun h => (Go.Am.not_neg h)) (fun h => (Go.Am.bne_neg h)) (Go.Am.or_neg g8))
   assumption
  ·
   intro g9
   have g9p0 : ((ValidGraph g) = true) ∧ (((List.length costs : Nat) : Int) = ((gAll g) + 1)) := (And.imp (fun h => (Go.Am.not_neg h)) (fun h => (Go.Am.bne_neg h)) (Go.Am.or_neg g9))
   have := gAll_b (ValidGraph_iff.1 g9p0.1)
   have := g9p0.2
   omega
  ·
   intro g10
   have g10p0 : ((ValidGraph g) = true) ∧ (((List.length costs : Nat) : Int) = ((gAll g) + 1)) := (And.imp (fun h => (Go.Am.not_neg h)) (fun h => (Go.Am.bne_neg h)) (Go.Am.or_neg g10))
   assumption
  ·
   intro g11
   have g11p0 : ((ValidGraph g) = true) ∧ (((List.length costs : Nat) : Int) = ((gAll g) + 1)) := (And.imp (fun h => (Go.Am.not_neg h)) (fun h => (Go.Am.bne_neg h)) (Go.Am.or_neg g11))
   assumption
  ·
   intro g12
   have g12p0 : ((ValidGraph g) = true) ∧ (((List.length costs : Nat) : Int) = ((gAll g) + 1)) := (And.imp (fun h => (Go.Am.not_neg h)) (fun h => (Go.Am.bne_neg h)) (Go.Am.or_neg g12))
   assumption
 refine AW.cd (bif (bif (!(ValidGraph g)) then true else (((List.length costs : Nat) : Int) != ((gAll g) + 1))) then true else ((List.getD costs 0 0) != 0)) ?_ ?_
 ·
  intro h13
  have h13q : (((ValidGraph g) = false) ∨ (((List.length costs : Nat) : Int) ≠ ((gAll g) + 1))) ∨ ((List.getD costs 0 0) ≠ 0) := (Or.imp (fun h => (Or.imp (fun h => (Go.Am.not_pos h)) (fun h => (Go.Am.bne_pos h)) (Go.Am.or_pos h))) (fun h => (Go.Am.bne_pos h)) (Go.Am.or_pos h13))
  have e14 := e0.trans (Go.Am.bif_t h13)
  refine AW.seq (AW.r1 hC [4] [16] ⟨[(4, .ref 16 1 0)], [(16, .box 1 [.bool false])]⟩ ?_)
  exact AW.ret (AW.retE (β := Bool) (fun v => [⟨.bool, v⟩]) (fun v => []) (v := false) e14 (by kernel_rfl) rfl rfl)
 ·
  intro h15
  have h15q : (((ValidGraph g) = true) ∧ (((List.length costs : Nat) : Int) = ((gAll g) + 1))) ∧ ((List.getD costs 0 0) = 0) := (And.imp (fun h => (And.imp (fun h => (Go.Am.not_neg h)) (fun h => (Go.Am.bne_neg h)) (Go.Am.or_neg h))) (fun h => (Go.Am.bne_neg h)) (Go.Am.or_neg h15))
  have e16 := e0.trans (Go.Am.bif_f h15)
  refine AW.kp [2, 3, 4] [8, 12, 16] ⟨[(2, .ref 8 1 0), (3, .ref 12 1 0), (4, .ref 16 1 0)], [(8, .box 1 [.data (.slice (.int .i64)) ((Graph.Rows g) : List Int), .data (.slice (.named 0)) ((Graph.Edges g) : List Edge)]), (12, .box 1 [.data (.slice (.int .i64)) (costs : List Int)]), (16, .box 1 [.bool false])]⟩ ?_
  refine AW.skip (AW.seq (AW.seq ?_))
  have hV := ValidGraph_iff.1 h15q.1.1
  have hA := gAll_b hV
  have hn5 := hV.n5
  have hlen := h15q.1.2
  refine AW.r1 hC [2, 3, 4, 5] [8, 12, 16, 20] ⟨[(2, .ref 8 1 0), (3, .ref 12 1 0), (4, .ref 16 1 0), (5, .ref 20 1 0)], [(8, .box 1 [.data (.slice (.int .i64)) ((Graph.Rows g) : List Int), .data (.slice (.named 0)) ((Graph.Edges g) : List Edge)]), (12, .box 1 [.data (.slice (.int .i64)) (costs : List Int)]), (16, .box 1 [.bool false]), (20, .box 1 [.int .i64 1])]⟩ ?_
  refine AW.cutQ (α := Unit) (fun x => ⟨[(4, .ref 16 1 0)], [(16, .box 1 [.bool false])]⟩) (fun x => (True) ∧ (iCheckCosts_l0 g costs (Int.toNat (gAll g + 1 - (1 : Int)) + 1) 1) = (.inl ())) ?_ ?_
  ·
   skip
   refine AW.block (AW.loop (α := Nat) (fun x => ⟨[(2, .ref 8 1 0), (3, .ref 12 1 0), (4, .ref 16 1 0), (5, .ref 20 1 0)], [(8, .box 1 [.data (.slice (.int .i64)) ((Graph.Rows g) : List Int), .data (.slice (.named 0)) ((Graph.Edges g) : List Edge)]), (12, .box 1 [.data (.slice (.int .i64)) (costs : List Int)]), (16, .box 1 [.bool false]), (20, .box 1 [.int .i64 ((x : Nat) : Int)])]⟩) (fun x => (1 ≤ x) ∧ ∃ k, Int.toNat (gAll g + 1 - (x : Int)) < k ∧ (iCheckCosts_l0 g costs (Int.toNat (gAll g + 1 - (1 : Int)) + 1) 1) = iCheckCosts_l0 g costs k x) (fun x => Int.toNat (gAll g + 1 - (x : Int))) 1 (by kernel_rfl) ⟨?_, _, Nat.lt_succ_self _, rfl⟩ ?_)
   ·
    show 1 ≤ 1
    omega
   ·
    intro mask hR
    obtain ⟨hI0, k163, hk161, e162⟩ := hR
    replace hI0 : 1 ≤ mask := hI0
    replace hk161 : Int.toNat (gAll g + 1 - (mask : Int)) < k163 := hk161
    obtain ⟨k163q, rfl⟩ : ∃ k, k163 = k + 1 := ⟨k163 - 1, by omega⟩
    refine AW.seq (AW.seq (AW.d0 hC hM [2, 3, 4, 5, 28] [8, 12, 16, 20] ⟨[(2, .ref 8 1 0), (3, .ref 12 1 0), (4, .ref 16 1 0), (5, .ref 20 1 0), (28, .bool (decide (((mask : Nat) : Int) ≤ (gAll g))))], [(8, .box 1 [.data (.slice (.int .i64)) ((Graph.Rows g) : List Int), .data (.slice (.named 0)) ((Graph.Edges g) : List Edge)]), (12, .box 1 [.data (.slice (.int .i64)) (costs : List Int)]), (16, .box 1 [.bool false]), (20, .box 1 [.int .i64 ((mask : Nat) : Int)])]⟩ [(g.Rows.length ≤ 40)] ?_ ?_))
    ·
     refine ⟨?_, trivial⟩
     ·
      omega
    refine AW.cd (decide (((mask : Nat) : Int) ≤ (gAll g))) ?_ ?_
    ·
     intro h164
     have h164q : ((mask : Nat) : Int) ≤ (gAll g) := (of_decide_eq_true h164)
     have e165 := e162.trans (Go.Am.bif_t h164)
     refine AW.kp [2, 3, 4, 5] [8, 12, 16, 20] ⟨[(2, .ref 8 1 0), (3, .ref 12 1 0), (4, .ref 16 1 0), (5, .ref 20 1 0)], [(8, .box 1 [.data (.slice (.int .i64)) ((Graph.Rows g) : List Int), .data (.slice (.named 0)) ((Graph.Edges g) : List Edge)]), (12, .box 1 [.data (.slice (.int .i64)) (costs : List Int)]), (16, .box 1 [.bool false]), (20, .box 1 [.int .i64 ((mask : Nat) : Int)])]⟩ ?_
     refine AW.skip (AW.seq (AW.block (AW.seq (AW.seq (AW.r0 hC [2, 3, 4, 5, 35] [8, 12, 16, 20] ⟨[(2, .ref 8 1 0), (3, .ref 12 1 0), (4, .ref 16 1 0), (5, .ref 20 1 0), (35, .bool ((bits .and .i64 ((mask : Nat) : Int) (((mask : Nat) : Int) - 1)) == 0))], [(8, .box 1 [.data (.slice (.int .i64)) ((Graph.Rows g) : List Int), .data (.slice (.named 0)) ((Graph.Edges g) : List Edge)]), (12, .box 1 [.data (.slice (.int .i64)) (costs : List Int)]), (16, .box 1 [.bool false]), (20, .box 1 [.int .i64 ((mask : Nat) : Int)])]⟩ [(-9223372036854775808 ≤ (((mask : Nat) : Int) - 1) ∧ (((mask : Nat) : Int) - 1) ≤ 9223372036854775807)] ?_ ?_)))))
     ·
      refine ⟨?_, trivial⟩
      ·
       omega
     refine AW.cd ((bits .and .i64 ((mask : Nat) : Int) (((mask : Nat) : Int) - 1)) == 0) ?_ ?_
     ·
      intro h166
      have h166q : (bits .and .i64 ((mask : Nat) : Int) (((mask : Nat) : Int) - 1)) = 0 := (Go.Am.beq_pos h166)
      have e167 := e165.trans (Go.Am.bif_t h166)
      refine AW.seq (AW.seq (AW.r0 hC [2, 3, 4, 5, 40] [8, 12, 16, 20] ⟨[(2, .ref 8 1 0), (3, .ref 12 1 0), (4, .ref 16 1 0), (5, .ref 20 1 0), (40, .bool ((List.getD costs mask 0) != 0))], [(8, .box 1 [.data (.slice (.int .i64)) ((Graph.Rows g) : List Int), .data (.slice (.named 0)) ((Graph.Edges g) : List Edge)]), (12, .box 1 [.data (.slice (.int .i64)) (costs : List Int)]), (16, .box 1 [.bool false]), (20, .box 1 [.int .i64 ((mask : Nat) : Int)])]⟩ [(0 ≤ ((mask : Nat) : Int) ∧ ((mask : Nat) : Int) < ((List.length costs : Nat) : Int))] ?_ ?_))
      ·
       refine ⟨?_, trivial⟩
       ·
        omega
      refine AW.cd ((List.getD costs mask 0) != 0) ?_ ?_
      ·
       intro h168
       have h168q : (List.getD costs mask 0) ≠ 0 := (Go.Am.bne_pos h168)
       have e169 := e167.trans (Go.Am.bif_t h168)
       refine AW.seq (AW.r1 hC [4] [16] ⟨[(4, .ref 16 1 0)], [(16, .box 1 [.bool false])]⟩ ?_)
       refine AW.ret ?_
       have e170 := e16.trans (Go.Am.elim_r e169)
       exact AW.retE (β := Bool) (fun v => [⟨.bool, v⟩]) (fun v => []) (v := false) e170 (by kernel_rfl) rfl rfl
      ·
       intro h171
       have h171q : (List.getD costs mask 0) = 0 := (Go.Am.bne_neg h171)
       have e172 := e167.trans (Go.Am.bif_f h171)
       refine AW.kp [2, 3, 4, 5] [8, 12, 16, 20] ⟨[(2, .ref 8 1 0), (3, .ref 12 1 0), (4, .ref 16 1 0), (5, .ref 20 1 0)], [(8, .box 1 [.data (.slice (.int .i64)) ((Graph.Rows g) : List Int), .data (.slice (.named 0)) ((Graph.Edges g) : List Edge)]), (12, .box 1 [.data (.slice (.int .i64)) (costs : List Int)]), (16, .box 1 [.bool false]), (20, .box 1 [.int .i64 ((mask : Nat) : Int)])]⟩ ?_
       refine AW.skip (AW.exit ?_)
       refine AW.seq (AW.seq (AW.r1 hC [2, 3, 4, 73] [8, 12, 16] ⟨[(2, .ref 8 1 0), (3, .ref 12 1 0), (4, .ref 16 1 0), (73, .int .i64 ((mask : Nat) : Int))], [(8, .box 1 [.data (.slice (.int .i64)) ((Graph.Rows g) : List Int), .data (.slice (.named 0)) ((Graph.Edges g) : List Edge)]), (12, .box 1 [.data (.slice (.int .i64)) (costs : List Int)]), (16, .box 1 [.bool false])]⟩ ?_))
       refine AW.r1 hC [2, 3, 4, 5] [8, 12, 16, 20] ⟨[(2, .ref 8 1 0), (3, .ref 12 1 0), (4, .ref 16 1 0), (5, .ref 20 1 0)], [(8, .box 1 [.data (.slice (.int .i64)) ((Graph.Rows g) : List Int), .data (.slice (.named 0)) ((Graph.Edges g) : List Edge)]), (12, .box 1 [.data (.slice (.int .i64)) (costs : List Int)]), (16, .box 1 [.bool false]), (20, .box 1 [.int .i64 ((mask : Nat) : Int)])]⟩ ?_
       refine AW.r0 hC [2, 3, 4, 5] [8, 12, 16, 20] ⟨[(2, .ref 8 1 0), (3, .ref 12 1 0), (4, .ref 16 1 0), (5, .ref 20 1 0)], [(8, .box 1 [.data (.slice (.int .i64)) ((Graph.Rows g) : List Int), .data (.slice (.named 0)) ((Graph.Edges g) : List Edge)]), (12, .box 1 [.data (.slice (.int .i64)) (costs : List Int)]), (16, .box 1 [.bool false]), (20, .box 1 [.int .i64 ((mask + 1 : Nat) : Int)])]⟩ [(-9223372036854775808 ≤ ((mask + 1 : Nat) : Int) ∧ ((mask + 1 : Nat) : Int) ≤ 9223372036854775807)] ?_ ?_
       ·
        refine ⟨?_, trivial⟩
        ·
         omega
       refine AW.back (x := mask) (mask + 1) (by kernel_rfl) ⟨?_, k163q, ?_, e172⟩ ?_
       ·
        show 1 ≤ (mask + 1)
        omega
       ·
        show Int.toNat (gAll g + 1 - ((mask + 1) : Int)) < k163q
        omega
       ·
        show Int.toNat (gAll g + 1 - ((mask + 1) : Int)) < Int.toNat (gAll g + 1 - (mask : Int))
        omega
     ·
      intro h173
      have h173q : (bits .and .i64 ((mask : Nat) : Int) (((mask : Nat) : Int) - 1)) ≠ 0 := (Go.Am.beq_neg h173)
      have e174 := e165.trans (Go.Am.bif_f h173)
      refine AW.kp [2, 3, 4, 5] [8, 12, 16, 20] ⟨[(2, .ref 8 1 0), (3, .ref 12 1 0), (4, .ref 16 1 0), (5, .ref 20 1 0)], [(8, .box 1 [.data (.slice (.int .i64)) ((Graph.Rows g) : List Int), .data (.slice (.named 0)) ((Graph.Edges g) : List Edge)]), (12, .box 1 [.data (.slice (.int .i64)) (costs : List Int)]), (16, .box 1 [.bool false]), (20, .box 1 [.int .i64 ((mask : Nat) : Int)])]⟩ ?_
      refine AW.skip (AW.seq ?_)
      refine AW.regD hC hM  true [] [2, 3, 4, 5, 6] [8, 12, 16, 20, 24]
       ⟨[(2, .ref 8 1 0), (3, .ref 12 1 0), (4, .ref 16 1 0), (5, .ref 20 1 0), (6, .ref 24 1 0)], [(8, .box 1 [.data (.slice (.int .i64)) ((Graph.Rows g) : List Int), .data (.slice (.named 0)) ((Graph.Edges g) : List Edge)]), (12, .box 1 [.data (.slice (.int .i64)) (costs : List Int)]), (16, .box 1 [.bool false]), (20, .box 1 [.int .i64 ((mask : Nat) : Int)]), (24, .box 1 [.int .i64 (IntKind.wrap .i64 ((List.getD costs mask 0) - (gSize g ((mask : Nat) : Int))))])]⟩
       [(0 ≤ ((mask : Nat) : Int) ∧ ((mask : Nat) : Int) < ((List.length costs : Nat) : Int)), (VG g ∧ True)] (by kernel_rfl) ?_ ?_
      ·
       refine ⟨?_, ?_, trivial⟩
       ·
        omega
       ·
        exact ⟨hV, trivial⟩
      refine AW.seq (AW.r1 hC [2, 3, 4, 5, 6, 7] [8, 12, 16, 20, 24, 28] ⟨[(2, .ref 8 1 0), (3, .ref 12 1 0), (4, .ref 16 1 0), (5, .ref 20 1 0), (6, .ref 24 1 0), (7, .ref 28 1 0)], [(8, .box 1 [.data (.slice (.int .i64)) ((Graph.Rows g) : List Int), .data (.slice (.named 0)) ((Graph.Edges g) : List Edge)]), (12, .box 1 [.data (.slice (.int .i64)) (costs : List Int)]), (16, .box 1 [.bool false]), (20, .box 1 [.int .i64 ((mask : Nat) : Int)]), (24, .box 1 [.int .i64 (IntKind.wrap .i64 ((List.getD costs mask 0) - (gSize g ((mask : Nat) : Int))))]), (28, .box 1 [.bool false])]⟩ ?_)
      refine AW.seq (AW.seq (AW.regionO [0, 1] (by rfl) ?_))
      refine AWO.run hC false [] [0] [1] [2, 3, 4, 5, 6, 7, 48] [8, 12, 16, 20, 24, 28]
       ⟨[(2, .ref 8 1 0), (3, .ref 12 1 0), (4, .ref 16 1 0), (5, .ref 20 1 0), (6, .ref 24 1 0), (7, .ref 28 1 0), (48, .int .i64 ((mask : Nat) : Int))], [(8, .box 1 [.data (.slice (.int .i64)) ((Graph.Rows g) : List Int), .data (.slice (.named 0)) ((Graph.Edges g) : List Edge)]), (12, .box 1 [.data (.slice (.int .i64)) (costs : List Int)]), (16, .box 1 [.bool false]), (20, .box 1 [.int .i64 ((mask : Nat) : Int)]), (24, .box 1 [.int .i64 (IntKind.wrap .i64 ((List.getD costs mask 0) - (gSize g ((mask : Nat) : Int))))]), (28, .box 1 [.bool false])]⟩
       [] (by rfl) (by kernel_rfl) ?_ ?_
      ·
       exact trivial
      refine AWO.call hC.ty (vs := [.int .i64 ((mask : Nat) : Int)]) (caps := []) (by rfl) rfl (.inl rfl) (by decide) (by kernel_rfl) (by kernel_rfl) Try.func64 (by kernel_rfl) rfl (by kernel_rfl) ?_
      intro o1
      refine AW.kp [0, 1002, 1003, 1004, 1005, 1006, 1007] [8, 12, 16, 20, 24, 28] ⟨[(0, .int .i64 ((mask : Nat) : Int)), (1002, .ref 8 1 0), (1003, .ref 12 1 0), (1004, .ref 16 1 0), (1005, .ref 20 1 0), (1006, .ref 24 1 0), (1007, .ref 28 1 0)], [(8, .box 1 [.data (.slice (.int .i64)) ((Graph.Rows g) : List Int), .data (.slice (.named 0)) ((Graph.Edges g) : List Edge)]), (12, .box 1 [.data (.slice (.int .i64)) (costs : List Int)]), (16, .box 1 [.bool false]), (20, .box 1 [.int .i64 ((mask : Nat) : Int)]), (24, .box 1 [.int .i64 (IntKind.wrap .i64 ((List.getD costs mask 0) - (gSize g ((mask : Nat) : Int))))]), (28, .box 1 [.bool false])]⟩ ?_
      refine AW.seq (AW.r1 hC1 [1, 1002, 1003, 1004, 1005, 1006, 1007] [8, 12, 16, 20, 24, 28, 4004] ⟨[(1, .ref 4004 1 0), (1002, .ref 8 1 0), (1003, .ref 12 1 0), (1004, .ref 16 1 0), (1005, .ref 20 1 0), (1006, .ref 24 1 0), (1007, .ref 28 1 0)], [(8, .box 1 [.data (.slice (.int .i64)) ((Graph.Rows g) : List Int), .data (.slice (.named 0)) ((Graph.Edges g) : List Edge)]), (12, .box 1 [.data (.slice (.int .i64)) (costs : List Int)]), (16, .box 1 [.bool false]), (20, .box 1 [.int .i64 ((mask : Nat) : Int)]), (24, .box 1 [.int .i64 (IntKind.wrap .i64 ((List.getD costs mask 0) - (gSize g ((mask : Nat) : Int))))]), (28, .box 1 [.bool false]), (4004, .box 1 [.int .i64 ((mask : Nat) : Int)])]⟩ ?_)
      refine AW.seq (AW.r1 hC1 [2, 1002, 1003, 1004, 1005, 1006, 1007] [8, 12, 16, 20, 24, 28, 4004] ⟨[(2, .clo 84 [.ref 4004 1 0]), (1002, .ref 8 1 0), (1003, .ref 12 1 0), (1004, .ref 16 1 0), (1005, .ref 20 1 0), (1006, .ref 24 1 0), (1007, .ref 28 1 0)], [(8, .box 1 [.data (.slice (.int .i64)) ((Graph.Rows g) : List Int), .data (.slice (.named 0)) ((Graph.Edges g) : List Edge)]), (12, .box 1 [.data (.slice (.int .i64)) (costs : List Int)]), (16, .box 1 [.bool false]), (20, .box 1 [.int .i64 ((mask : Nat) : Int)]), (24, .box 1 [.int .i64 (IntKind.wrap .i64 ((List.getD costs mask 0) - (gSize g ((mask : Nat) : Int))))]), (28, .box 1 [.bool false]), (4004, .box 1 [.int .i64 ((mask : Nat) : Int)])]⟩ ?_)
      refine AW.ret ?_
      refine ⟨[.clo 84 [.ref 4004 1 0]], by kernel_rfl, ?_⟩
      refine AWO.keep [2, 3, 4, 5, 6, 7, 49] [8, 12, 16, 20, 24, 28, 4004] ⟨[(2, .ref 8 1 0), (3, .ref 12 1 0), (4, .ref 16 1 0), (5, .ref 20 1 0), (6, .ref 24 1 0), (7, .ref 28 1 0), (49, .clo 84 [.ref 4004 1 0])], [(8, .box 1 [.data (.slice (.int .i64)) ((Graph.Rows g) : List Int), .data (.slice (.named 0)) ((Graph.Edges g) : List Edge)]), (12, .box 1 [.data (.slice (.int .i64)) (costs : List Int)]), (16, .box 1 [.bool false]), (20, .box 1 [.int .i64 ((mask : Nat) : Int)]), (24, .box 1 [.int .i64 (IntKind.wrap .i64 ((List.getD costs mask 0) - (gSize g ((mask : Nat) : Int))))]), (28, .box 1 [.bool false]), (4004, .box 1 [.int .i64 ((mask : Nat) : Int)])]⟩ (by kernel_rfl) ?_
      refine AWO.run hC false [] [] [] [2, 3, 4, 5, 6, 7, 49] [8, 12, 16, 20, 24, 28, 4004]
       ⟨[(2, .ref 8 1 0), (3, .ref 12 1 0), (4, .ref 16 1 0), (5, .ref 20 1 0), (6, .ref 24 1 0), (7, .ref 28 1 0), (49, .clo 84 [.ref 4004 1 0])], [(8, .box 1 [.data (.slice (.int .i64)) ((Graph.Rows g) : List Int), .data (.slice (.named 0)) ((Graph.Edges g) : List Edge)]), (12, .box 1 [.data (.slice (.int .i64)) (costs : List Int)]), (16, .box 1 [.bool false]), (20, .box 1 [.int .i64 ((mask : Nat) : Int)]), (24, .box 1 [.int .i64 (IntKind.wrap .i64 ((List.getD costs mask 0) - (gSize g ((mask : Nat) : Int))))]), (28, .box 1 [.bool false]), (4004, .box 1 [.int .i64 ((mask : Nat) : Int)])]⟩
       [] (by rfl) (by kernel_rfl) ?_ ?_
      ·
       exact trivial
      refine AWO.nil ?_
      refine AW.block (AW.cutQ (α := Bool) (fun x => ⟨[(2, .ref 8 1 0), (3, .ref 12 1 0), (4, .ref 16 1 0), (5, .ref 20 1 0), (6, .ref 24 1 0), (7, .ref 28 1 0), (49, .clo 84 [.ref 4004 1 0])], [(8, .box 1 [.data (.slice (.int .i64)) ((Graph.Rows g) : List Int), .data (.slice (.named 0)) ((Graph.Edges g) : List Edge)]), (12, .box 1 [.data (.slice (.int .i64)) (costs : List Int)]), (16, .box 1 [.bool false]), (20, .box 1 [.int .i64 ((mask : Nat) : Int)]), (24, .box 1 [.int .i64 (IntKind.wrap .i64 ((List.getD costs mask 0) - (gSize g ((mask : Nat) : Int))))]), (28, .box 1 [.bool x]), (4004, .box 1 [.int .i64 ((mask : Nat) : Int)])]⟩) (fun x => (True) ∧ (iCheckCosts_l1 g costs mask (parts ((mask : Nat) : Int)) false) = (.inl x)) ?_ ?_)
      ·
       skip
       refine AW.rangeFunc (α := Bool) hro Try.func84 rfl rfl (by rfl) (by decide) (fun x => ⟨[(2, .ref 8 1 0), (3, .ref 12 1 0), (4, .ref 16 1 0), (5, .ref 20 1 0), (6, .ref 24 1 0), (7, .ref 28 1 0), (49, .clo 84 [.ref 4004 1 0])], [(8, .box 1 [.data (.slice (.int .i64)) ((Graph.Rows g) : List Int), .data (.slice (.named 0)) ((Graph.Edges g) : List Edge)]), (12, .box 1 [.data (.slice (.int .i64)) (costs : List Int)]), (16, .box 1 [.bool false]), (20, .box 1 [.int .i64 ((mask : Nat) : Int)]), (24, .box 1 [.int .i64 (IntKind.wrap .i64 ((List.getD costs mask 0) - (gSize g ((mask : Nat) : Int))))]), (28, .box 1 [.bool x]), (4004, .box 1 [.int .i64 ((mask : Nat) : Int)])]⟩) (fun k x => (True) ∧ (iCheckCosts_l1 g costs mask (parts ((mask : Nat) : Int)) false) = iCheckCosts_l1 g costs mask (List.drop k (parts ((mask : Nat) : Int))) x) ((parts ((mask : Nat) : Int)).map (SV.int .i64)) ((parts ((mask : Nat) : Int)).map (Value.int .i64)) (by simp) (els_int_rep (fun y hy => parts_rng (by omega) hy)) [2, 3, 4, 5, 6, 7, 49] [8, 12, 16, 20, 24, 28, 4004] (fun x => by kernel_rfl) (fun cvs hl => parts_it (id := 4004) (ep := 1) (mask := ((mask : Nat) : Int)) (by omega) (fun x => by kernel_rfl) cvs hl) false (by kernel_rfl) ⟨?_, by rw [List.drop_zero]⟩ ?_ ?_
       ·
        show True
        exact trivial
       ·
        intro k reached sv hsv hR E1
        obtain ⟨hI1, he193⟩ := hR
        replace hI1 : True := hI1
        obtain ⟨v50, hd195, rfl, hy196⟩ := els_int hsv
        have e194 : (iCheckCosts_l1 g costs mask (parts ((mask : Nat) : Int)) false) = iCheckCosts_l1 g costs mask (v50 :: List.drop (k + 1) (parts ((mask : Nat) : Int))) reached := he193.trans (by rw [hd195])
        have hy196m := parts_mem hy196
        have hr := part_rest (by omega) hy196m
        refine AW.kp [2, 3, 4, 5, 6, 7, 49, 50, 1002, 1003, 1004, 1005, 1006, 1007, 1049] [8, 12, 16, 20, 24, 28, 4004] ⟨[(2, .ref 8 1 0), (3, .ref 12 1 0), (4, .ref 16 1 0), (5, .ref 20 1 0), (6, .ref 24 1 0), (7, .ref 28 1 0), (49, .clo 84 [.ref 4004 1 0]), (50, .int .i64 v50), (1002, .ref 8 1 0), (1003, .ref 12 1 0), (1004, .ref 16 1 0), (1005, .ref 20 1 0), (1006, .ref 24 1 0), (1007, .ref 28 1 0), (1049, .clo 84 [.ref 4004 1 0])], [(8, .box 1 [.data (.slice (.int .i64)) ((Graph.Rows g) : List Int), .data (.slice (.named 0)) ((Graph.Edges g) : List Edge)]), (12, .box 1 [.data (.slice (.int .i64)) (costs : List Int)]), (16, .box 1 [.bool false]), (20, .box 1 [.int .i64 ((mask : Nat) : Int)]), (24, .box 1 [.int .i64 (IntKind.wrap .i64 ((List.getD costs mask 0) - (gSize g ((mask : Nat) : Int))))]), (28, .box 1 [.bool reached]), (4004, .box 1 [.int .i64 ((mask : Nat) : Int)])]⟩ ?_
        refine AW.r1 hC1 [3, 4, 5, 6, 7, 8, 1002, 1003, 1004, 1005, 1006, 1007, 1049] [8, 12, 16, 20, 24, 28, 4004] ⟨[(3, .ref 12 1 0), (4, .ref 16 1 0), (5, .ref 20 1 0), (6, .ref 24 1 0), (7, .ref 28 1 0), (8, .int .i64 v50), (1002, .ref 8 1 0), (1003, .ref 12 1 0), (1004, .ref 16 1 0), (1005, .ref 20 1 0), (1006, .ref 24 1 0), (1007, .ref 28 1 0), (1049, .clo 84 [.ref 4004 1 0])], [(8, .box 1 [.data (.slice (.int .i64)) ((Graph.Rows g) : List Int), .data (.slice (.named 0)) ((Graph.Edges g) : List Edge)]), (12, .box 1 [.data (.slice (.int .i64)) (costs : List Int)]), (16, .box 1 [.bool false]), (20, .box 1 [.int .i64 ((mask : Nat) : Int)]), (24, .box 1 [.int .i64 (IntKind.wrap .i64 ((List.getD costs mask 0) - (gSize g ((mask : Nat) : Int))))]), (28, .box 1 [.bool reached]), (4004, .box 1 [.int .i64 ((mask : Nat) : Int)])]⟩ ?_
        intro E196
        refine AW.block (AW.seq ?_)
        refine AW.regD hC1 hM  true [] [4, 6, 7, 9, 1002, 1003, 1004, 1005, 1006, 1007, 1049] [8, 12, 16, 20, 24, 28, 4004]
         ⟨[(4, .ref 16 1 0), (6, .ref 24 1 0), (7, .ref 28 1 0), (9, .int .i64 (IntKind.wrap .i64 ((List.getD costs (Int.toNat v50) 0) + (List.getD costs (Int.toNat (bits .andNot .i64 ((mask : Nat) : Int) v50)) 0)))), (1002, .ref 8 1 0), (1003, .ref 12 1 0), (1004, .ref 16 1 0), (1005, .ref 20 1 0), (1006, .ref 24 1 0), (1007, .ref 28 1 0), (1049, .clo 84 [.ref 4004 1 0])], [(8, .box 1 [.data (.slice (.int .i64)) ((Graph.Rows g) : List Int), .data (.slice (.named 0)) ((Graph.Edges g) : List Edge)]), (12, .box 1 [.data (.slice (.int .i64)) (costs : List Int)]), (16, .box 1 [.bool false]), (20, .box 1 [.int .i64 ((mask : Nat) : Int)]), (24, .box 1 [.int .i64 (IntKind.wrap .i64 ((List.getD costs mask 0) - (gSize g ((mask : Nat) : Int))))]), (28, .box 1 [.bool reached]), (4004, .box 1 [.int .i64 ((mask : Nat) : Int)])]⟩
         [(0 ≤ v50 ∧ v50 < ((List.length costs : Nat) : Int)), (0 ≤ (bits .andNot .i64 ((mask : Nat) : Int) v50) ∧ (bits .andNot .i64 ((mask : Nat) : Int) v50) < ((List.length costs : Nat) : Int))] (by kernel_rfl) ?_ ?_
        ·
         refine ⟨?_, ?_, trivial⟩
         ·
          omega
         ·
          omega
        refine AW.seq (AW.seq (AW.r1 hC1 [4, 6, 7, 9, 64, 1002, 1003, 1004, 1005, 1006, 1007, 1049] [8, 12, 16, 20, 24, 28, 4004] ⟨[(4, .ref 16 1 0), (6, .ref 24 1 0), (7, .ref 28 1 0), (9, .int .i64 (IntKind.wrap .i64 ((List.getD costs (Int.toNat v50) 0) + (List.getD costs (Int.toNat (bits .andNot .i64 ((mask : Nat) : Int) v50)) 0)))), (64, .bool (decide ((IntKind.wrap .i64 ((List.getD costs (Int.toNat v50) 0) + (List.getD costs (Int.toNat (bits .andNot .i64 ((mask : Nat) : Int) v50)) 0))) < (IntKind.wrap .i64 ((List.getD costs mask 0) - (gSize g ((mask : Nat) : Int))))))), (1002, .ref 8 1 0), (1003, .ref 12 1 0), (1004, .ref 16 1 0), (1005, .ref 20 1 0), (1006, .ref 24 1 0), (1007, .ref 28 1 0), (1049, .clo 84 [.ref 4004 1 0])], [(8, .box 1 [.data (.slice (.int .i64)) ((Graph.Rows g) : List Int), .data (.slice (.named 0)) ((Graph.Edges g) : List Edge)]), (12, .box 1 [.data (.slice (.int .i64)) (costs : List Int)]), (16, .box 1 [.bool false]), (20, .box 1 [.int .i64 ((mask : Nat) : Int)]), (24, .box 1 [.int .i64 (IntKind.wrap .i64 ((List.getD costs mask 0) - (gSize g ((mask : Nat) : Int))))]), (28, .box 1 [.bool reached]), (4004, .box 1 [.int .i64 ((mask : Nat) : Int)])]⟩ ?_))
        refine AW.cd (decide ((IntKind.wrap .i64 ((List.getD costs (Int.toNat v50) 0) + (List.getD costs (Int.toNat (bits .andNot .i64 ((mask : Nat) : Int) v50)) 0))) < (IntKind.wrap .i64 ((List.getD costs mask 0) - (gSize g ((mask : Nat) : Int)))))) ?_ ?_
        ·
         intro h197
         have h197q : (IntKind.wrap .i64 ((List.getD costs (Int.toNat v50) 0) + (List.getD costs (Int.toNat (bits .andNot .i64 ((mask : Nat) : Int) v50)) 0))) < (IntKind.wrap .i64 ((List.getD costs mask 0) - (gSize g ((mask : Nat) : Int)))) := (of_decide_eq_true h197)
         have e198 := e194.trans (Go.Am.bif_t h197)
         refine AW.seq (AW.r1 hC1 [4, 1002, 1003, 1004, 1005, 1006, 1007, 1049] [8, 12, 16, 20, 24, 28, 4004] ⟨[(4, .ref 16 1 0), (1002, .ref 8 1 0), (1003, .ref 12 1 0), (1004, .ref 16 1 0), (1005, .ref 20 1 0), (1006, .ref 24 1 0), (1007, .ref 28 1 0), (1049, .clo 84 [.ref 4004 1 0])], [(8, .box 1 [.data (.slice (.int .i64)) ((Graph.Rows g) : List Int), .data (.slice (.named 0)) ((Graph.Edges g) : List Edge)]), (12, .box 1 [.data (.slice (.int .i64)) (costs : List Int)]), (16, .box 1 [.bool false]), (20, .box 1 [.int .i64 ((mask : Nat) : Int)]), (24, .box 1 [.int .i64 (IntKind.wrap .i64 ((List.getD costs mask 0) - (gSize g ((mask : Nat) : Int))))]), (28, .box 1 [.bool reached]), (4004, .box 1 [.int .i64 ((mask : Nat) : Int)])]⟩ ?_)
         refine AW.ret ?_
         have e199 := e174.trans (Go.Am.elim_r e198)
         have e200 := e16.trans (Go.Am.elim_r e199)
         exact AW.retE (β := Bool) (fun v => [⟨.bool, v⟩]) (fun v => []) (v := false) e200 (by kernel_rfl) rfl rfl
        ·
         intro h201
         have h201q : ¬ ((IntKind.wrap .i64 ((List.getD costs (Int.toNat v50) 0) + (List.getD costs (Int.toNat (bits .andNot .i64 ((mask : Nat) : Int) v50)) 0))) < (IntKind.wrap .i64 ((List.getD costs mask 0) - (gSize g ((mask : Nat) : Int))))) := (of_decide_eq_false h201)
         have e202 := e194.trans (Go.Am.bif_f h201)
         refine AW.kp [6, 7, 9, 1002, 1003, 1004, 1005, 1006, 1007, 1049] [8, 12, 16, 20, 24, 28, 4004] ⟨[(6, .ref 24 1 0), (7, .ref 28 1 0), (9, .int .i64 (IntKind.wrap .i64 ((List.getD costs (Int.toNat v50) 0) + (List.getD costs (Int.toNat (bits .andNot .i64 ((mask : Nat) : Int) v50)) 0)))), (1002, .ref 8 1 0), (1003, .ref 12 1 0), (1004, .ref 16 1 0), (1005, .ref 20 1 0), (1006, .ref 24 1 0), (1007, .ref 28 1 0), (1049, .clo 84 [.ref 4004 1 0])], [(8, .box 1 [.data (.slice (.int .i64)) ((Graph.Rows g) : List Int), .data (.slice (.named 0)) ((Graph.Edges g) : List Edge)]), (12, .box 1 [.data (.slice (.int .i64)) (costs : List Int)]), (16, .box 1 [.bool false]), (20, .box 1 [.int .i64 ((mask : Nat) : Int)]), (24, .box 1 [.int .i64 (IntKind.wrap .i64 ((List.getD costs mask 0) - (gSize g ((mask : Nat) : Int))))]), (28, .box 1 [.bool reached]), (4004, .box 1 [.int .i64 ((mask : Nat) : Int)])]⟩ ?_
         refine AW.skip (AW.r0 hC1 [1002, 1003, 1004, 1005, 1006, 1007, 1049] [8, 12, 16, 20, 24, 28, 4004] ⟨[(1002, .ref 8 1 0), (1003, .ref 12 1 0), (1004, .ref 16 1 0), (1005, .ref 20 1 0), (1006, .ref 24 1 0), (1007, .ref 28 1 0), (1049, .clo 84 [.ref 4004 1 0])], [(8, .box 1 [.data (.slice (.int .i64)) ((Graph.Rows g) : List Int), .data (.slice (.named 0)) ((Graph.Edges g) : List Edge)]), (12, .box 1 [.data (.slice (.int .i64)) (costs : List Int)]), (16, .box 1 [.bool false]), (20, .box 1 [.int .i64 ((mask : Nat) : Int)]), (24, .box 1 [.int .i64 (IntKind.wrap .i64 ((List.getD costs mask 0) - (gSize g ((mask : Nat) : Int))))]), (28, .box 1 [.bool (bif reached then true else ((IntKind.wrap .i64 ((List.getD costs mask 0) - (gSize g ((mask : Nat) : Int)))) == (IntKind.wrap .i64 ((List.getD costs (Int.toNat v50) 0) + (List.getD costs (Int.toNat (bits .andNot .i64 ((mask : Nat) : Int) v50)) 0)))))]), (4004, .box 1 [.int .i64 ((mask : Nat) : Int)])]⟩ [((reached = false) → ((reached = false))), ((reached = false) → ((reached = false))), ((reached = false) → ((reached = false)))] ?_ ?_)
         ·
          refine ⟨?_, ?_, ?_, trivial⟩
          ·
           intro g203
           have g203p0 : reached = false := g203
           assumption
          ·
           intro g204
           have g204p0 : reached = false := g204
           assumption
          ·
           intro g205
           have g205p0 : reached = false := g205
           assumption
         refine ⟨(bif reached then true else ((IntKind.wrap .i64 ((List.getD costs mask 0) - (gSize g ((mask : Nat) : Int)))) == (IntKind.wrap .i64 ((List.getD costs (Int.toNat v50) 0) + (List.getD costs (Int.toNat (bits .andNot .i64 ((mask : Nat) : Int) v50)) 0))))), by kernel_rfl, ?_, e202⟩
         show True
         assumption
       ·
        intro reached hR
        obtain ⟨hI1, he193⟩ := hR
        replace hI1 : True := hI1
        have e194 : (iCheckCosts_l1 g costs mask (parts ((mask : Nat) : Int)) false) = iCheckCosts_l1 g costs mask [] reached := he193.trans (by rw [List.drop_of_length_le (by simp)])
        refine AW.meet reached (by kernel_rfl) ⟨?_, e194⟩
        show True
        exact hI1
      ·
       intro reached hR
       obtain ⟨hJ1, e206⟩ := hR
       replace hJ1 : True := hJ1
       have e207 := e174.trans (Go.Am.elim_l e206)
       refine AW.seq (AW.r1 hC [2, 3, 4, 5, 72] [8, 12, 16, 20] ⟨[(2, .ref 8 1 0), (3, .ref 12 1 0), (4, .ref 16 1 0), (5, .ref 20 1 0), (72, .bool (!reached))], [(8, .box 1 [.data (.slice (.int .i64)) ((Graph.Rows g) : List Int), .data (.slice (.named 0)) ((Graph.Edges g) : List Edge)]), (12, .box 1 [.data (.slice (.int .i64)) (costs : List Int)]), (16, .box 1 [.bool false]), (20, .box 1 [.int .i64 ((mask : Nat) : Int)])]⟩ ?_)
       refine AW.cd (!reached) ?_ ?_
       ·
        intro h208
        have h208q : reached = false := (Go.Am.not_pos h208)
        have e209 := e207.trans (Go.Am.bif_t h208)
        refine AW.seq (AW.r1 hC [4] [16] ⟨[(4, .ref 16 1 0)], [(16, .box 1 [.bool false])]⟩ ?_)
        refine AW.ret ?_
        have e210 := e16.trans (Go.Am.elim_r e209)
        exact AW.retE (β := Bool) (fun v => [⟨.bool, v⟩]) (fun v => []) (v := false) e210 (by kernel_rfl) rfl rfl
       ·
        intro h211
        have h211q : reached = true := (Go.Am.not_neg h211)
        have e212 := e207.trans (Go.Am.bif_f h211)
        refine AW.kp [2, 3, 4, 5] [8, 12, 16, 20] ⟨[(2, .ref 8 1 0), (3, .ref 12 1 0), (4, .ref 16 1 0), (5, .ref 20 1 0)], [(8, .box 1 [.data (.slice (.int .i64)) ((Graph.Rows g) : List Int), .data (.slice (.named 0)) ((Graph.Edges g) : List Edge)]), (12, .box 1 [.data (.slice (.int .i64)) (costs : List Int)]), (16, .box 1 [.bool false]), (20, .box 1 [.int .i64 ((mask : Nat) : Int)])]⟩ ?_
        refine AW.skip (AW.seq (AW.seq (AW.r1 hC [2, 3, 4, 73] [8, 12, 16] ⟨[(2, .ref 8 1 0), (3, .ref 12 1 0), (4, .ref 16 1 0), (73, .int .i64 ((mask : Nat) : Int))], [(8, .box 1 [.data (.slice (.int .i64)) ((Graph.Rows g) : List Int), .data (.slice (.named 0)) ((Graph.Edges g) : List Edge)]), (12, .box 1 [.data (.slice (.int .i64)) (costs : List Int)]), (16, .box 1 [.bool false])]⟩ ?_)))
        refine AW.r1 hC [2, 3, 4, 5] [8, 12, 16, 20] ⟨[(2, .ref 8 1 0), (3, .ref 12 1 0), (4, .ref 16 1 0), (5, .ref 20 1 0)], [(8, .box 1 [.data (.slice (.int .i64)) ((Graph.Rows g) : List Int), .data (.slice (.named 0)) ((Graph.Edges g) : List Edge)]), (12, .box 1 [.data (.slice (.int .i64)) (costs : List Int)]), (16, .box 1 [.bool false]), (20, .box 1 [.int .i64 ((mask : Nat) : Int)])]⟩ ?_
        refine AW.r0 hC [2, 3, 4, 5] [8, 12, 16, 20] ⟨[(2, .ref 8 1 0), (3, .ref 12 1 0), (4, .ref 16 1 0), (5, .ref 20 1 0)], [(8, .box 1 [.data (.slice (.int .i64)) ((Graph.Rows g) : List Int), .data (.slice (.named 0)) ((Graph.Edges g) : List Edge)]), (12, .box 1 [.data (.slice (.int .i64)) (costs : List Int)]), (16, .box 1 [.bool false]), (20, .box 1 [.int .i64 ((mask + 1 : Nat) : Int)])]⟩ [(-9223372036854775808 ≤ ((mask + 1 : Nat) : Int) ∧ ((mask + 1 : Nat) : Int) ≤ 9223372036854775807)] ?_ ?_
        ·
         refine ⟨?_, trivial⟩
         ·
          omega
        refine AW.back (x := mask) (mask + 1) (by kernel_rfl) ⟨?_, k163q, ?_, e212⟩ ?_
        ·
         show 1 ≤ (mask + 1)
         omega
        ·
         show Int.toNat (gAll g + 1 - ((mask + 1) : Int)) < k163q
         omega
        ·
         show Int.toNat (gAll g + 1 - ((mask + 1) : Int)) < Int.toNat (gAll g + 1 - (mask : Int))
         omega
    ·
     intro h213
     have h213q : ¬ (((mask : Nat) : Int) ≤ (gAll g)) := (of_decide_eq_false h213)
     have e214 := e162.trans (Go.Am.bif_f h213)
     refine AW.kp [4] [16] ⟨[(4, .ref 16 1 0)], [(16, .box 1 [.bool false])]⟩ ?_
     refine AW.exit ?_
     refine AW.meet () (by kernel_rfl) ⟨?_, e214⟩
     show True
     trivial
  ·
   intro x hR
   obtain ⟨hJ0, e215⟩ := hR
   replace hJ0 : True := hJ0
   have e216 := e16.trans (Go.Am.elim_l e215)
   refine AW.seq (AW.r1 hC [4] [16] ⟨[(4, .ref 16 1 0)], [(16, .box 1 [.bool true])]⟩ ?_)
   exact AW.ret (AW.retE (β := Bool) (fun v => [⟨.bool, v⟩]) (fun v => []) (v := true) e216 (by kernel_rfl) rfl rfl)

def CheckCosts_l1 (g : Graph) (costs : List Int) (mask : Nat) : Nat → Bool → Nat → Bool ⊕ Bool
 | 0, attained, part => .inl attained
 | k + 1, attained, part => (bif (decide (((part : Nat) : Int) < ((mask : Nat) : Int))) then (bif ((bits .and .i64 ((part : Nat) : Int) ((mask : Nat) : Int)) != ((part : Nat) : Int)) then (CheckCosts_l1 g costs mask k attained (part + 1)) else (bif (decide ((IntKind.wrap .i64 ((List.getD costs part 0) + (List.getD costs (Int.toNat (IntKind.wrap .i64 (((mask : Nat) : Int) - ((part : Nat) : Int)))) 0))) < (IntKind.wrap .i64 ((List.getD costs mask 0) - (subsetSize g ((mask : Nat) : Int)))))) then (.inr false) else (CheckCosts_l1 g costs mask k (bif attained then true else ((IntKind.wrap .i64 ((List.getD costs mask 0) - (subsetSize g ((mask : Nat) : Int)))) == (IntKind.wrap .i64 ((List.getD costs part 0) + (List.getD costs (Int.toNat (IntKind.wrap .i64 (((mask : Nat) : Int) - ((part : Nat) : Int)))) 0))))) (part + 1)))) else (.inl attained))

def CheckCosts_l0 (g : Graph) (costs : List Int) : Nat → Nat → Unit ⊕ Bool
 | 0, mask => .inl ()
 | k + 1, mask => (bif (decide (((mask : Nat) : Int) < ((List.length costs : Nat) : Int))) then (bif ((bits .and .i64 ((mask : Nat) : Int) (((mask : Nat) : Int) - 1)) == 0) then (bif ((List.getD costs mask 0) != 0) then (.inr false) else (CheckCosts_l0 g costs k (mask + 1))) else (Sum.elim (fun z => (fun (attained : Bool) => (bif (!attained) then (.inr false) else (CheckCosts_l0 g costs k (mask + 1)))) z) (fun r => (.inr r)) (CheckCosts_l1 g costs mask (mask - 1 + 1) false 1))) else (.inl ()))

def CheckCosts (g : Graph) (costs : List Int) : Bool := (bif (bif (!(validGraph g)) then true else (((List.length costs : Nat) : Int) != ((1 : Int) * 2 ^ (List.length (Graph.Rows g))))) then false else (Sum.elim (fun _ => true) (fun r => r) (CheckCosts_l0 g costs ((List.length costs) - 0 + 1) 0)))

def CheckCosts_sp : FnSpec := mkSpec [.val (.named 1), .val (.slice (.int .i64))] [.val .bool] (fun (g : Graph) (costs : List Int) => True) (fun (g : Graph) (costs : List Int) => [⟨.bool, (CheckCosts g costs)⟩])

theorem CheckCosts_ok : FnOK Try.prog 27 CheckCosts_sp := by
 have hC : CtxOK Try.prog (mkCtx tyL [(54, validGraph_sp), (56, subsetSize_sp)]) := CtxOK.cons validGraph_ok (CtxOK.cons subsetSize_ok (CtxOK.nil tyOK))
 have hM : Try.prog.follows .mixedOrders = true := Try.checked.mixed
 refine FnOK.of_body Try.func27 (by kernel_rfl) rfl (C := (mkCtx tyL [(54, validGraph_sp), (56, subsetSize_sp)])) hC.ty (by kernel_rfl) ?_
 intro (g : Graph) (costs : List Int) hwf hpre E
 have hpre : True := hpre
 have hw_g : Wf ⟨(.named 1), (g : Graph)⟩ := hwf _ (List.Mem.head _)
 have hl_g_Rows : ((List.length (Graph.Rows g) : Nat) : Int) ≤ 9223372036854775807 := (hw_g.field (tv := ⟨(.slice (.int .i64)), Graph.Rows g⟩) (List.Mem.head _)).len
 have hl_g_Edges : ((List.length (Graph.Edges g) : Nat) : Int) ≤ 9223372036854775807 := (hw_g.field (tv := ⟨(.slice (.named 0)), Graph.Edges g⟩) (List.Mem.tail _ (List.Mem.head _))).len
 have hw_costs : Wf ⟨(.slice (.int .i64)), (costs : List Int)⟩ := hwf _ (List.Mem.tail _ (List.Mem.head _))
 have hl_costs : ((List.length costs : Nat) : Int) ≤ 9223372036854775807 := hw_costs.len
 have e0 : CheckCosts g costs = CheckCosts g costs := rfl
 refine AW.seq (AW.r1 hC [1, 2] [8] ⟨[(1, .data (.slice (.int .i64)) (costs : List Int)), (2, .ref 8 1 0)], [(8, .box 1 [.data (.slice (.int .i64)) ((Graph.Rows g) : List Int), .data (.slice (.named 0)) ((Graph.Edges g) : List Edge)])]⟩ ?_)
 refine AW.seq (AW.seq (AW.r0 hC [1, 2, 21] [8] ⟨[(1, .data (.slice (.int .i64)) (costs : List Int)), (2, .ref 8 1 0), (21, .bool (bif (!(validGraph g)) then true else (((List.length costs : Nat) : Int) != ((1 : Int) * 2 ^ (List.length (Graph.Rows g))))))], [(8, .box 1 [.data (.slice (.int .i64)) ((Graph.Rows g) : List Int), .data (.slice (.named 0)) ((Graph.Edges g) : List Edge)])]⟩ [(True), (((!(validGraph g)) = false) → (((!(validGraph g)) = false))), (((!(validGraph g)) = false) → (((!(validGraph g)) = false))), (((!(validGraph g)) = false) → (((!(validGraph g)) = false))), (((!(validGraph g)) = false) → (((!(validGraph g)) = false))), (((!(validGraph g)) = false) → (0 ≤ ((List.length (Graph.Rows g) : Nat) : Int) ∧ ((List.length (Graph.Rows g) : Nat) : Int) ≤ 64)), (((!(validGraph g)) = false) → (-9223372036854775808 ≤ ((1 : Int) * 2 ^ (List.length (Graph.Rows g))) ∧ ((1 : Int) * 2 ^ (List.length (Graph.Rows g))) ≤ 9223372036854775807)), (((!(validGraph g)) = false) → (((!(validGraph g)) = false))), (((!(validGraph g)) = false) → (((!(validGraph g)) = false))), (((!(validGraph g)) = false) → (((!(validGraph g)) = false)))] ?_ ?_))
 ·
  refine ⟨?_, ?_, ?_, ?_, ?_, ?_, ?_, ?_, ?_, ?_, trivial⟩
  ·
   trivial
  ·
   intro g1
   have g1p0 : (validGraph g) = true := (Go.Am.not_neg g1)
   assumption
  ·
   intro g2
   have g2p0 : (validGraph g) = true := (Go.Am.not_neg g2)
   assumption
  ·
   intro g3
   have g3p0 : (validGraph g) = true := (Go.Am.not_neg g3)
   assumption
  ·
   intro g4
   have g4p0 : (validGraph g) = true := (Go.Am.not_neg g4)
   assumption
  ·
   intro g5
   have g5p0 : (validGraph g) = true := (Go.Am.not_neg g5)
   have := (validGraph_iff.1 g5p0).n5
   omega
  ·
   intro g6
   have g6p0 : (validGraph g) = true := (Go.Am.not_neg g6)
   have := pow2 (n := g.Rows.length) (by have := (validGraph_iff.1 g6p0).n5; omega)
   omega
  ·
   intro g7
   have g7p0 : (validGraph g) = true := (Go.Am.not_neg g7)
   assumption
  ·
   intro g8
   have g8p0 : (validGraph g) = true := (Go.Am.not_neg g8)
   assumption
  ·
   intro g9
   have g9p0 : (validGraph g) = true := (Go.Am.not_neg g9)
   assumption
 refine AW.cd (bif (!(validGraph g)) then true else (((List.length costs : Nat) : Int) != ((1 : Int) * 2 ^ (List.length (Graph.Rows g))))) ?_ ?_
 ·
  intro h10
  have h10q : ((validGraph g) = false) ∨ (((List.length costs : Nat) : Int) ≠ ((1 : Int) * 2 ^ (List.length (Graph.Rows g)))) := (Or.imp (fun h => (Go.Am.not_pos h)) (fun h => (Go.Am.bne_pos h)) (Go.Am.or_pos h10))
  have e11 := e0.trans (Go.Am.bif_t h10)
  refine AW.seq (AW.r1 hC [4] [] ⟨[(4, .bool false)], []⟩ ?_)
  exact AW.ret (AW.retE (β := Bool) (fun v => [⟨.bool, v⟩]) (fun v => []) (v := false) e11 (by kernel_rfl) rfl rfl)
 ·
  intro h12
  have h12q : ((validGraph g) = true) ∧ (((List.length costs : Nat) : Int) = ((1 : Int) * 2 ^ (List.length (Graph.Rows g)))) := (And.imp (fun h => (Go.Am.not_neg h)) (fun h => (Go.Am.bne_neg h)) (Go.Am.or_neg h12))
  have e13 := e0.trans (Go.Am.bif_f h12)
  refine AW.kp [1, 2] [8] ⟨[(1, .data (.slice (.int .i64)) (costs : List Int)), (2, .ref 8 1 0)], [(8, .box 1 [.data (.slice (.int .i64)) ((Graph.Rows g) : List Int), .data (.slice (.named 0)) ((Graph.Edges g) : List Edge)])]⟩ ?_
  refine AW.skip (AW.seq (AW.seq ?_))
  have hV := validGraph_iff.1 h12q.1
  have hn5 := hV.n5
  have hlen := len32 hV h12q.2
  refine AW.r1 hC [1, 2, 5] [8] ⟨[(1, .data (.slice (.int .i64)) (costs : List Int)), (2, .ref 8 1 0), (5, .int .i64 0)], [(8, .box 1 [.data (.slice (.int .i64)) ((Graph.Rows g) : List Int), .data (.slice (.named 0)) ((Graph.Edges g) : List Edge)])]⟩ ?_
  refine AW.cutQ (α := Unit) (fun x => ⟨[], []⟩) (fun x => (True) ∧ (CheckCosts_l0 g costs ((List.length costs) - 0 + 1) 0) = (.inl ())) ?_ ?_
  ·
   skip
   refine AW.block (AW.loop (α := Nat) (fun x => ⟨[(1, .data (.slice (.int .i64)) (costs : List Int)), (2, .ref 8 1 0), (5, .int .i64 ((x : Nat) : Int))], [(8, .box 1 [.data (.slice (.int .i64)) ((Graph.Rows g) : List Int), .data (.slice (.named 0)) ((Graph.Edges g) : List Edge)])]⟩) (fun x => (True) ∧ ∃ k, (List.length costs) - x < k ∧ (CheckCosts_l0 g costs ((List.length costs) - 0 + 1) 0) = CheckCosts_l0 g costs k x) (fun x => (List.length costs) - x) 0 (by kernel_rfl) ⟨?_, _, Nat.lt_succ_self _, rfl⟩ ?_)
   ·
    show True
    exact trivial
   ·
    intro mask hR
    obtain ⟨hI0, k253, hk251, e252⟩ := hR
    replace hI0 : True := hI0
    replace hk251 : (List.length costs) - mask < k253 := hk251
    obtain ⟨k253q, rfl⟩ : ∃ k, k253 = k + 1 := ⟨k253 - 1, by omega⟩
    refine AW.seq (AW.seq (AW.r1 hC [1, 2, 5, 25] [8] ⟨[(1, .data (.slice (.int .i64)) (costs : List Int)), (2, .ref 8 1 0), (5, .int .i64 ((mask : Nat) : Int)), (25, .bool (decide (((mask : Nat) : Int) < ((List.length costs : Nat) : Int))))], [(8, .box 1 [.data (.slice (.int .i64)) ((Graph.Rows g) : List Int), .data (.slice (.named 0)) ((Graph.Edges g) : List Edge)])]⟩ ?_))
    refine AW.cd (decide (((mask : Nat) : Int) < ((List.length costs : Nat) : Int))) ?_ ?_
    ·
     intro h254
     have h254q : ((mask : Nat) : Int) < ((List.length costs : Nat) : Int) := (of_decide_eq_true h254)
     have e255 := e252.trans (Go.Am.bif_t h254)
     refine AW.kp [1, 2, 5] [8] ⟨[(1, .data (.slice (.int .i64)) (costs : List Int)), (2, .ref 8 1 0), (5, .int .i64 ((mask : Nat) : Int))], [(8, .box 1 [.data (.slice (.int .i64)) ((Graph.Rows g) : List Int), .data (.slice (.named 0)) ((Graph.Edges g) : List Edge)])]⟩ ?_
     refine AW.skip (AW.seq (AW.block (AW.seq (AW.seq (AW.r0 hC [1, 2, 5, 32] [8] ⟨[(1, .data (.slice (.int .i64)) (costs : List Int)), (2, .ref 8 1 0), (5, .int .i64 ((mask : Nat) : Int)), (32, .bool ((bits .and .i64 ((mask : Nat) : Int) (((mask : Nat) : Int) - 1)) == 0))], [(8, .box 1 [.data (.slice (.int .i64)) ((Graph.Rows g) : List Int), .data (.slice (.named 0)) ((Graph.Edges g) : List Edge)])]⟩ [(-9223372036854775808 ≤ (((mask : Nat) : Int) - 1) ∧ (((mask : Nat) : Int) - 1) ≤ 9223372036854775807)] ?_ ?_)))))
     ·
      refine ⟨?_, trivial⟩
      ·
       omega
     refine AW.cd ((bits .and .i64 ((mask : Nat) : Int) (((mask : Nat) : Int) - 1)) == 0) ?_ ?_
     ·
      intro h256
      have h256q : (bits .and .i64 ((mask : Nat) : Int) (((mask : Nat) : Int) - 1)) = 0 := (Go.Am.beq_pos h256)
      have e257 := e255.trans (Go.Am.bif_t h256)
      refine AW.seq (AW.seq (AW.r0 hC [1, 2, 5, 37] [8] ⟨[(1, .data (.slice (.int .i64)) (costs : List Int)), (2, .ref 8 1 0), (5, .int .i64 ((mask : Nat) : Int)), (37, .bool ((List.getD costs mask 0) != 0))], [(8, .box 1 [.data (.slice (.int .i64)) ((Graph.Rows g) : List Int), .data (.slice (.named 0)) ((Graph.Edges g) : List Edge)])]⟩ [(0 ≤ ((mask : Nat) : Int) ∧ ((mask : Nat) : Int) < ((List.length costs : Nat) : Int))] ?_ ?_))
      ·
       refine ⟨?_, trivial⟩
       ·
        omega
      refine AW.cd ((List.getD costs mask 0) != 0) ?_ ?_
      ·
       intro h258
       have h258q : (List.getD costs mask 0) ≠ 0 := (Go.Am.bne_pos h258)
       have e259 := e257.trans (Go.Am.bif_t h258)
       refine AW.seq (AW.r1 hC [4] [] ⟨[(4, .bool false)], []⟩ ?_)
       refine AW.ret ?_
       have e260 := e13.trans (Go.Am.elim_r e259)
       exact AW.retE (β := Bool) (fun v => [⟨.bool, v⟩]) (fun v => []) (v := false) e260 (by kernel_rfl) rfl rfl
      ·
       intro h261
       have h261q : (List.getD costs mask 0) = 0 := (Go.Am.bne_neg h261)
       have e262 := e257.trans (Go.Am.bif_f h261)
       refine AW.kp [1, 2, 5] [8] ⟨[(1, .data (.slice (.int .i64)) (costs : List Int)), (2, .ref 8 1 0), (5, .int .i64 ((mask : Nat) : Int))], [(8, .box 1 [.data (.slice (.int .i64)) ((Graph.Rows g) : List Int), .data (.slice (.named 0)) ((Graph.Edges g) : List Edge)])]⟩ ?_
       refine AW.skip (AW.exit ?_)
       refine AW.r0 hC [1, 2, 5] [8] ⟨[(1, .data (.slice (.int .i64)) (costs : List Int)), (2, .ref 8 1 0), (5, .int .i64 ((mask + 1 : Nat) : Int))], [(8, .box 1 [.data (.slice (.int .i64)) ((Graph.Rows g) : List Int), .data (.slice (.named 0)) ((Graph.Edges g) : List Edge)])]⟩ [(-9223372036854775808 ≤ ((mask + 1 : Nat) : Int) ∧ ((mask + 1 : Nat) : Int) ≤ 9223372036854775807)] ?_ ?_
       ·
        refine ⟨?_, trivial⟩
        ·
         omega
       refine AW.back (x := mask) (mask + 1) (by kernel_rfl) ⟨?_, k253q, ?_, e262⟩ ?_
       ·
        show True
        assumption
       ·
        show (List.length costs) - (mask + 1) < k253q
        omega
       ·
        show (List.length costs) - (mask + 1) < (List.length costs) - mask
        omega
     ·
      intro h263
      have h263q : (bits .and .i64 ((mask : Nat) : Int) (((mask : Nat) : Int) - 1)) ≠ 0 := (Go.Am.beq_neg h263)
      have e264 := e255.trans (Go.Am.bif_f h263)
      refine AW.kp [1, 2, 5] [8] ⟨[(1, .data (.slice (.int .i64)) (costs : List Int)), (2, .ref 8 1 0), (5, .int .i64 ((mask : Nat) : Int))], [(8, .box 1 [.data (.slice (.int .i64)) ((Graph.Rows g) : List Int), .data (.slice (.named 0)) ((Graph.Edges g) : List Edge)])]⟩ ?_
      refine AW.skip (AW.seq (AW.r1 hC [1, 2, 5, 6] [8] ⟨[(1, .data (.slice (.int .i64)) (costs : List Int)), (2, .ref 8 1 0), (5, .int .i64 ((mask : Nat) : Int)), (6, .bool false)], [(8, .box 1 [.data (.slice (.int .i64)) ((Graph.Rows g) : List Int), .data (.slice (.named 0)) ((Graph.Edges g) : List Edge)])]⟩ ?_))
      refine AW.seq ?_
      refine AW.regD hC hM  true [] [1, 2, 5, 6, 7] [8]
       ⟨[(1, .data (.slice (.int .i64)) (costs : List Int)), (2, .ref 8 1 0), (5, .int .i64 ((mask : Nat) : Int)), (6, .bool false), (7, .int .i64 (IntKind.wrap .i64 ((List.getD costs mask 0) - (subsetSize g ((mask : Nat) : Int)))))], [(8, .box 1 [.data (.slice (.int .i64)) ((Graph.Rows g) : List Int), .data (.slice (.named 0)) ((Graph.Edges g) : List Edge)])]⟩
       [(0 ≤ ((mask : Nat) : Int) ∧ ((mask : Nat) : Int) < ((List.length costs : Nat) : Int)), (VG g ∧ 0 ≤ ((mask : Nat) : Int))] (by kernel_rfl) ?_ ?_
      ·
       refine ⟨?_, ?_, trivial⟩
       ·
        omega
       ·
        exact ⟨hV, by omega⟩
      refine AW.seq (AW.seq (AW.r1 hC [1, 2, 5, 6, 7, 8] [8] ⟨[(1, .data (.slice (.int .i64)) (costs : List Int)), (2, .ref 8 1 0), (5, .int .i64 ((mask : Nat) : Int)), (6, .bool false), (7, .int .i64 (IntKind.wrap .i64 ((List.getD costs mask 0) - (subsetSize g ((mask : Nat) : Int))))), (8, .int .i64 1)], [(8, .box 1 [.data (.slice (.int .i64)) ((Graph.Rows g) : List Int), .data (.slice (.named 0)) ((Graph.Edges g) : List Edge)])]⟩ ?_))
      refine AW.cutQ (α := Bool) (fun x => ⟨[(1, .data (.slice (.int .i64)) (costs : List Int)), (2, .ref 8 1 0), (5, .int .i64 ((mask : Nat) : Int)), (6, .bool x)], [(8, .box 1 [.data (.slice (.int .i64)) ((Graph.Rows g) : List Int), .data (.slice (.named 0)) ((Graph.Edges g) : List Edge)])]⟩) (fun x => (True) ∧ (CheckCosts_l1 g costs mask (mask - 1 + 1) false 1) = (.inl x)) ?_ ?_
      ·
       skip
       refine AW.block (AW.loop (α := Bool × Nat) (fun x => ⟨[(1, .data (.slice (.int .i64)) (costs : List Int)), (2, .ref 8 1 0), (5, .int .i64 ((mask : Nat) : Int)), (6, .bool x.1), (7, .int .i64 (IntKind.wrap .i64 ((List.getD costs mask 0) - (subsetSize g ((mask : Nat) : Int))))), (8, .int .i64 ((x.2 : Nat) : Int))], [(8, .box 1 [.data (.slice (.int .i64)) ((Graph.Rows g) : List Int), .data (.slice (.named 0)) ((Graph.Edges g) : List Edge)])]⟩) (fun x => (1 ≤ x.2) ∧ ∃ k, mask - x.2 < k ∧ (CheckCosts_l1 g costs mask (mask - 1 + 1) false 1) = CheckCosts_l1 g costs mask k x.1 x.2) (fun x => mask - x.2) (false, 1) (by kernel_rfl) ⟨?_, _, Nat.lt_succ_self _, rfl⟩ ?_)
       ·
        show 1 ≤ 1
        omega
       ·
        intro x hR
        obtain ⟨attained, part⟩ := x
        obtain ⟨hI1, k309, hk307, e308⟩ := hR
        replace hI1 : 1 ≤ part := hI1
        replace hk307 : mask - part < k309 := hk307
        obtain ⟨k309q, rfl⟩ : ∃ k, k309 = k + 1 := ⟨k309 - 1, by omega⟩
        refine AW.seq (AW.seq (AW.r1 hC [1, 2, 5, 6, 7, 8, 48] [8] ⟨[(1, .data (.slice (.int .i64)) (costs : List Int)), (2, .ref 8 1 0), (5, .int .i64 ((mask : Nat) : Int)), (6, .bool attained), (7, .int .i64 (IntKind.wrap .i64 ((List.getD costs mask 0) - (subsetSize g ((mask : Nat) : Int))))), (8, .int .i64 ((part : Nat) : Int)), (48, .bool (decide (((part : Nat) : Int) < ((mask : Nat) : Int))))], [(8, .box 1 [.data (.slice (.int .i64)) ((Graph.Rows g) : List Int), .data (.slice (.named 0)) ((Graph.Edges g) : List Edge)])]⟩ ?_))
        refine AW.cd (decide (((part : Nat) : Int) < ((mask : Nat) : Int))) ?_ ?_
        ·
         intro h310
         have h310q : ((part : Nat) : Int) < ((mask : Nat) : Int) := (of_decide_eq_true h310)
         have e311 := e308.trans (Go.Am.bif_t h310)
         refine AW.kp [1, 2, 5, 6, 7, 8] [8] ⟨[(1, .data (.slice (.int .i64)) (costs : List Int)), (2, .ref 8 1 0), (5, .int .i64 ((mask : Nat) : Int)), (6, .bool attained), (7, .int .i64 (IntKind.wrap .i64 ((List.getD costs mask 0) - (subsetSize g ((mask : Nat) : Int))))), (8, .int .i64 ((part : Nat) : Int))], [(8, .box 1 [.data (.slice (.int .i64)) ((Graph.Rows g) : List Int), .data (.slice (.named 0)) ((Graph.Edges g) : List Edge)])]⟩ ?_
         refine AW.skip (AW.seq (AW.block (AW.seq (AW.seq (AW.r1 hC [1, 2, 5, 6, 7, 8, 55] [8] ⟨[(1, .data (.slice (.int .i64)) (costs : List Int)), (2, .ref 8 1 0), (5, .int .i64 ((mask : Nat) : Int)), (6, .bool attained), (7, .int .i64 (IntKind.wrap .i64 ((List.getD costs mask 0) - (subsetSize g ((mask : Nat) : Int))))), (8, .int .i64 ((part : Nat) : Int)), (55, .bool ((bits .and .i64 ((part : Nat) : Int) ((mask : Nat) : Int)) != ((part : Nat) : Int)))], [(8, .box 1 [.data (.slice (.int .i64)) ((Graph.Rows g) : List Int), .data (.slice (.named 0)) ((Graph.Edges g) : List Edge)])]⟩ ?_)))))
         refine AW.cd ((bits .and .i64 ((part : Nat) : Int) ((mask : Nat) : Int)) != ((part : Nat) : Int)) ?_ ?_
         ·
          intro h312
          have h312q : (bits .and .i64 ((part : Nat) : Int) ((mask : Nat) : Int)) ≠ ((part : Nat) : Int) := (Go.Am.bne_pos h312)
          have e313 := e311.trans (Go.Am.bif_t h312)
          refine AW.kp [1, 2, 5, 6, 7, 8] [8] ⟨[(1, .data (.slice (.int .i64)) (costs : List Int)), (2, .ref 8 1 0), (5, .int .i64 ((mask : Nat) : Int)), (6, .bool attained), (7, .int .i64 (IntKind.wrap .i64 ((List.getD costs mask 0) - (subsetSize g ((mask : Nat) : Int))))), (8, .int .i64 ((part : Nat) : Int))], [(8, .box 1 [.data (.slice (.int .i64)) ((Graph.Rows g) : List Int), .data (.slice (.named 0)) ((Graph.Edges g) : List Edge)])]⟩ ?_
          refine AW.exit ?_
          refine AW.r0 hC [1, 2, 5, 6, 7, 8] [8] ⟨[(1, .data (.slice (.int .i64)) (costs : List Int)), (2, .ref 8 1 0), (5, .int .i64 ((mask : Nat) : Int)), (6, .bool attained), (7, .int .i64 (IntKind.wrap .i64 ((List.getD costs mask 0) - (subsetSize g ((mask : Nat) : Int))))), (8, .int .i64 ((part + 1 : Nat) : Int))], [(8, .box 1 [.data (.slice (.int .i64)) ((Graph.Rows g) : List Int), .data (.slice (.named 0)) ((Graph.Edges g) : List Edge)])]⟩ [(-9223372036854775808 ≤ ((part + 1 : Nat) : Int) ∧ ((part + 1 : Nat) : Int) ≤ 9223372036854775807)] ?_ ?_
          ·
           refine ⟨?_, trivial⟩
           ·
            omega
          refine AW.back (x := (attained, part)) (attained, part + 1) (by kernel_rfl) ⟨?_, k309q, ?_, e313⟩ ?_
          ·
           show 1 ≤ (part + 1)
           omega
          ·
           show mask - (part + 1) < k309q
           omega
          ·
           show mask - (part + 1) < mask - part
           omega
         ·
          intro h314
          have h314q : (bits .and .i64 ((part : Nat) : Int) ((mask : Nat) : Int)) = ((part : Nat) : Int) := (Go.Am.bne_neg h314)
          have e315 := e311.trans (Go.Am.bif_f h314)
          refine AW.kp [1, 2, 5, 6, 7, 8] [8] ⟨[(1, .data (.slice (.int .i64)) (costs : List Int)), (2, .ref 8 1 0), (5, .int .i64 ((mask : Nat) : Int)), (6, .bool attained), (7, .int .i64 (IntKind.wrap .i64 ((List.getD costs mask 0) - (subsetSize g ((mask : Nat) : Int))))), (8, .int .i64 ((part : Nat) : Int))], [(8, .box 1 [.data (.slice (.int .i64)) ((Graph.Rows g) : List Int), .data (.slice (.named 0)) ((Graph.Edges g) : List Edge)])]⟩ ?_
          refine AW.skip (AW.seq ?_)
          refine AW.regD hC hM  true [] [1, 2, 5, 6, 7, 8, 9] [8]
           ⟨[(1, .data (.slice (.int .i64)) (costs : List Int)), (2, .ref 8 1 0), (5, .int .i64 ((mask : Nat) : Int)), (6, .bool attained), (7, .int .i64 (IntKind.wrap .i64 ((List.getD costs mask 0) - (subsetSize g ((mask : Nat) : Int))))), (8, .int .i64 ((part : Nat) : Int)), (9, .int .i64 (IntKind.wrap .i64 ((List.getD costs part 0) + (List.getD costs (Int.toNat (IntKind.wrap .i64 (((mask : Nat) : Int) - ((part : Nat) : Int)))) 0))))], [(8, .box 1 [.data (.slice (.int .i64)) ((Graph.Rows g) : List Int), .data (.slice (.named 0)) ((Graph.Edges g) : List Edge)])]⟩
           [(0 ≤ ((part : Nat) : Int) ∧ ((part : Nat) : Int) < ((List.length costs : Nat) : Int)), (0 ≤ (IntKind.wrap .i64 (((mask : Nat) : Int) - ((part : Nat) : Int))) ∧ (IntKind.wrap .i64 (((mask : Nat) : Int) - ((part : Nat) : Int))) < ((List.length costs : Nat) : Int))] (by kernel_rfl) ?_ ?_
          ·
           refine ⟨?_, ?_, trivial⟩
           ·
            omega
           ·
            rw [IntKind.wrap_i64]; omega
          refine AW.seq (AW.seq (AW.r1 hC [1, 2, 5, 6, 7, 8, 9, 69] [8] ⟨[(1, .data (.slice (.int .i64)) (costs : List Int)), (2, .ref 8 1 0), (5, .int .i64 ((mask : Nat) : Int)), (6, .bool attained), (7, .int .i64 (IntKind.wrap .i64 ((List.getD costs mask 0) - (subsetSize g ((mask : Nat) : Int))))), (8, .int .i64 ((part : Nat) : Int)), (9, .int .i64 (IntKind.wrap .i64 ((List.getD costs part 0) + (List.getD costs (Int.toNat (IntKind.wrap .i64 (((mask : Nat) : Int) - ((part : Nat) : Int)))) 0)))), (69, .bool (decide ((IntKind.wrap .i64 ((List.getD costs part 0) + (List.getD costs (Int.toNat (IntKind.wrap .i64 (((mask : Nat) : Int) - ((part : Nat) : Int)))) 0))) < (IntKind.wrap .i64 ((List.getD costs mask 0) - (subsetSize g ((mask : Nat) : Int)))))))], [(8, .box 1 [.data (.slice (.int .i64)) ((Graph.Rows g) : List Int), .data (.slice (.named 0)) ((Graph.Edges g) : List Edge)])]⟩ ?_))
          refine AW.cd (decide ((IntKind.wrap .i64 ((List.getD costs part 0) + (List.getD costs (Int.toNat (IntKind.wrap .i64 (((mask : Nat) : Int) - ((part : Nat) : Int)))) 0))) < (IntKind.wrap .i64 ((List.getD costs mask 0) - (subsetSize g ((mask : Nat) : Int)))))) ?_ ?_
          ·
           intro h316
           have h316q : (IntKind.wrap .i64 ((List.getD costs part 0) + (List.getD costs (Int.toNat (IntKind.wrap .i64 (((mask : Nat) : Int) - ((part : Nat) : Int)))) 0))) < (IntKind.wrap .i64 ((List.getD costs mask 0) - (subsetSize g ((mask : Nat) : Int)))) := (of_decide_eq_true h316)
           have e317 := e315.trans (Go.Am.bif_t h316)
           refine AW.seq (AW.r1 hC [4] [] ⟨[(4, .bool false)], []⟩ ?_)
           refine AW.ret ?_
           have e318 := e264.trans (Go.Am.elim_r e317)
           have e319 := e13.trans (Go.Am.elim_r e318)
           exact AW.retE (β := Bool) (fun v => [⟨.bool, v⟩]) (fun v => []) (v := false) e319 (by kernel_rfl) rfl rfl
          ·
           intro h320
           have h320q : ¬ ((IntKind.wrap .i64 ((List.getD costs part 0) + (List.getD costs (Int.toNat (IntKind.wrap .i64 (((mask : Nat) : Int) - ((part : Nat) : Int)))) 0))) < (IntKind.wrap .i64 ((List.getD costs mask 0) - (subsetSize g ((mask : Nat) : Int))))) := (of_decide_eq_false h320)
           have e321 := e315.trans (Go.Am.bif_f h320)
           refine AW.kp [1, 2, 5, 6, 7, 8, 9] [8] ⟨[(1, .data (.slice (.int .i64)) (costs : List Int)), (2, .ref 8 1 0), (5, .int .i64 ((mask : Nat) : Int)), (6, .bool attained), (7, .int .i64 (IntKind.wrap .i64 ((List.getD costs mask 0) - (subsetSize g ((mask : Nat) : Int))))), (8, .int .i64 ((part : Nat) : Int)), (9, .int .i64 (IntKind.wrap .i64 ((List.getD costs part 0) + (List.getD costs (Int.toNat (IntKind.wrap .i64 (((mask : Nat) : Int) - ((part : Nat) : Int)))) 0))))], [(8, .box 1 [.data (.slice (.int .i64)) ((Graph.Rows g) : List Int), .data (.slice (.named 0)) ((Graph.Edges g) : List Edge)])]⟩ ?_
           refine AW.skip (AW.r0 hC [1, 2, 5, 6, 7, 8] [8] ⟨[(1, .data (.slice (.int .i64)) (costs : List Int)), (2, .ref 8 1 0), (5, .int .i64 ((mask : Nat) : Int)), (6, .bool (bif attained then true else ((IntKind.wrap .i64 ((List.getD costs mask 0) - (subsetSize g ((mask : Nat) : Int)))) == (IntKind.wrap .i64 ((List.getD costs part 0) + (List.getD costs (Int.toNat (IntKind.wrap .i64 (((mask : Nat) : Int) - ((part : Nat) : Int)))) 0)))))), (7, .int .i64 (IntKind.wrap .i64 ((List.getD costs mask 0) - (subsetSize g ((mask : Nat) : Int))))), (8, .int .i64 ((part : Nat) : Int))], [(8, .box 1 [.data (.slice (.int .i64)) ((Graph.Rows g) : List Int), .data (.slice (.named 0)) ((Graph.Edges g) : List Edge)])]⟩ [((attained = false) → ((attained = false))), ((attained = false) → ((attained = false))), ((attained = false) → ((attained = false)))] ?_ ?_)
           ·
            refine ⟨?_, ?_, ?_, trivial⟩
            ·
             intro g322
             have g322p0 : attained = false := g322
             assumption
            ·
             intro g323
             have g323p0 : attained = false := g323
             assumption
            ·
             intro g324
             have g324p0 : attained = false := g324
             assumption
           refine AW.r0 hC [1, 2, 5, 6, 7, 8] [8] ⟨[(1, .data (.slice (.int .i64)) (costs : List Int)), (2, .ref 8 1 0), (5, .int .i64 ((mask : Nat) : Int)), (6, .bool (bif attained then true else ((IntKind.wrap .i64 ((List.getD costs mask 0) - (subsetSize g ((mask : Nat) : Int)))) == (IntKind.wrap .i64 ((List.getD costs part 0) + (List.getD costs (Int.toNat (IntKind.wrap .i64 (((mask : Nat) : Int) - ((part : Nat) : Int)))) 0)))))), (7, .int .i64 (IntKind.wrap .i64 ((List.getD costs mask 0) - (subsetSize g ((mask : Nat) : Int))))), (8, .int .i64 ((part + 1 : Nat) : Int))], [(8, .box 1 [.data (.slice (.int .i64)) ((Graph.Rows g) : List Int), .data (.slice (.named 0)) ((Graph.Edges g) : List Edge)])]⟩ [(-9223372036854775808 ≤ ((part + 1 : Nat) : Int) ∧ ((part + 1 : Nat) : Int) ≤ 9223372036854775807)] ?_ ?_
           ·
            refine ⟨?_, trivial⟩
            ·
             omega
           refine AW.back (x := (attained, part)) ((bif attained then true else ((IntKind.wrap .i64 ((List.getD costs mask 0) - (subsetSize g ((mask : Nat) : Int)))) == (IntKind.wrap .i64 ((List.getD costs part 0) + (List.getD costs (Int.toNat (IntKind.wrap .i64 (((mask : Nat) : Int) - ((part : Nat) : Int)))) 0))))), part + 1) (by kernel_rfl) ⟨?_, k309q, ?_, e321⟩ ?_
           ·
            show 1 ≤ (part + 1)
            omega
           ·
            show mask - (part + 1) < k309q
            omega
           ·
            show mask - (part + 1) < mask - part
            omega
        ·
         intro h325
         have h325q : ¬ (((part : Nat) : Int) < ((mask : Nat) : Int)) := (of_decide_eq_false h325)
         have e326 := e308.trans (Go.Am.bif_f h325)
         refine AW.kp [1, 2, 5, 6] [8] ⟨[(1, .data (.slice (.int .i64)) (costs : List Int)), (2, .ref 8 1 0), (5, .int .i64 ((mask : Nat) : Int)), (6, .bool attained)], [(8, .box 1 [.data (.slice (.int .i64)) ((Graph.Rows g) : List Int), .data (.slice (.named 0)) ((Graph.Edges g) : List Edge)])]⟩ ?_
         refine AW.exit ?_
         refine AW.meet attained (by kernel_rfl) ⟨?_, e326⟩
         show True
         assumption
      ·
       intro attained hR
       obtain ⟨hJ1, e327⟩ := hR
       replace hJ1 : True := hJ1
       have e328 := e264.trans (Go.Am.elim_l e327)
       refine AW.seq (AW.r1 hC [1, 2, 5, 77] [8] ⟨[(1, .data (.slice (.int .i64)) (costs : List Int)), (2, .ref 8 1 0), (5, .int .i64 ((mask : Nat) : Int)), (77, .bool (!attained))], [(8, .box 1 [.data (.slice (.int .i64)) ((Graph.Rows g) : List Int), .data (.slice (.named 0)) ((Graph.Edges g) : List Edge)])]⟩ ?_)
       refine AW.cd (!attained) ?_ ?_
       ·
        intro h329
        have h329q : attained = false := (Go.Am.not_pos h329)
        have e330 := e328.trans (Go.Am.bif_t h329)
        refine AW.seq (AW.r1 hC [4] [] ⟨[(4, .bool false)], []⟩ ?_)
        refine AW.ret ?_
        have e331 := e13.trans (Go.Am.elim_r e330)
        exact AW.retE (β := Bool) (fun v => [⟨.bool, v⟩]) (fun v => []) (v := false) e331 (by kernel_rfl) rfl rfl
       ·
        intro h332
        have h332q : attained = true := (Go.Am.not_neg h332)
        have e333 := e328.trans (Go.Am.bif_f h332)
        refine AW.kp [1, 2, 5] [8] ⟨[(1, .data (.slice (.int .i64)) (costs : List Int)), (2, .ref 8 1 0), (5, .int .i64 ((mask : Nat) : Int))], [(8, .box 1 [.data (.slice (.int .i64)) ((Graph.Rows g) : List Int), .data (.slice (.named 0)) ((Graph.Edges g) : List Edge)])]⟩ ?_
        refine AW.skip (AW.r0 hC [1, 2, 5] [8] ⟨[(1, .data (.slice (.int .i64)) (costs : List Int)), (2, .ref 8 1 0), (5, .int .i64 ((mask + 1 : Nat) : Int))], [(8, .box 1 [.data (.slice (.int .i64)) ((Graph.Rows g) : List Int), .data (.slice (.named 0)) ((Graph.Edges g) : List Edge)])]⟩ [(-9223372036854775808 ≤ ((mask + 1 : Nat) : Int) ∧ ((mask + 1 : Nat) : Int) ≤ 9223372036854775807)] ?_ ?_)
        ·
         refine ⟨?_, trivial⟩
         ·
          omega
        refine AW.back (x := mask) (mask + 1) (by kernel_rfl) ⟨?_, k253q, ?_, e333⟩ ?_
        ·
         show True
         assumption
        ·
         show (List.length costs) - (mask + 1) < k253q
         omega
        ·
         show (List.length costs) - (mask + 1) < (List.length costs) - mask
         omega
    ·
     intro h334
     have h334q : ¬ (((mask : Nat) : Int) < ((List.length costs : Nat) : Int)) := (of_decide_eq_false h334)
     have e335 := e252.trans (Go.Am.bif_f h334)
     refine AW.kp [] [] ⟨[], []⟩ ?_
     refine AW.exit ?_
     refine AW.meet () (by kernel_rfl) ⟨?_, e335⟩
     show True
     assumption
  ·
   intro x hR
   obtain ⟨hJ0, e336⟩ := hR
   replace hJ0 : True := hJ0
   have e337 := e13.trans (Go.Am.elim_l e336)
   refine AW.seq (AW.r1 hC [4] [] ⟨[(4, .bool true)], []⟩ ?_)
   exact AW.ret (AW.retE (β := Bool) (fun v => [⟨.bool, v⟩]) (fun v => []) (v := true) e337 (by kernel_rfl) rfl rfl)

theorem part_iff : ∀ p m : Fin 32, (bits .andNot .i64 (p.val : Int) (m.val : Int) == 0) = !(bits .and .i64 (p.val : Int) (m.val : Int) != (p.val : Int)) := by decide +kernel

theorem part_iff' {p m : Nat} (hp : p < 32) (hm : m < 32) : (bits .andNot .i64 (p : Int) (m : Int) == 0) = !(bits .and .i64 (p : Int) (m : Int) != (p : Int)) := part_iff ⟨p, hp⟩ ⟨m, hm⟩

end
end Go.Proofs.Ytpoohhjlpepmfaa
