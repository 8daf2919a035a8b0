/-
  A part of the proof of this claim (AxF): what functions of the program compute, and plain facts of that. No conditions.
-/
import Derived.Test.YtgbapklfgjnggaaAxE
import Derived.Test.YtgbapklfgjnggaaAnG
set_option linter.all false
namespace Go.Proofs.Ytgbapklfgjnggaa
open Go Go.Am
noncomputable section

theorem spec_costs {g : Graph} (hV : VG g) : Sm (sbestCosts g) 31000000000000000 ∧ ((List.length (sbestCosts g) : Nat) : Int) = gAll g + 1 := by
 have hA := gAll_b hV
 have h := spec_best hV
 refine ⟨⟨by omega, fun j => ?_⟩, by omega⟩
 have := CB_of (h.2.cb hV (by omega)) (by omega) j
 omega

def BestTree (g : Graph) : JoinTree × Int := (bif (!(validGraph g)) then ((JoinTree.mk 0 ([] : List JoinTree)), (-1)) else ((JoinTree.mk (JoinTree.Leaf (bestTree g (sbestCosts g) (((List.length (sbestCosts g) : Nat) : Int) - 1))) (JoinTree.Kids (bestTree g (sbestCosts g) (((List.length (sbestCosts g) : Nat) : Int) - 1)))), (List.getD (sbestCosts g) (Int.toNat (((List.length (sbestCosts g) : Nat) : Int) - 1)) 0)))

def BestTree_sp : FnSpec := mkSpec [.val (.named 1)] [.val (.named 3), .val (.int .i64)] (fun (g : Graph) => True) (fun (g : Graph) => [⟨(.named 3), ((BestTree g).1)⟩, ⟨(.int .i64), ((BestTree g).2)⟩])

theorem BestTree_ok : FnOK Try.prog 39 BestTree_sp := by
 have hC : CtxOK Try.prog (mkCtx tyL [(55, validGraph_sp), (63, sbestCosts_sp), (72, bestTree_sp)]) := CtxOK.cons validGraph_ok (CtxOK.cons sbestCosts_ok (CtxOK.cons bestTree_ok (CtxOK.nil tyOK)))
 have hM : Try.prog.follows .mixedOrders = true := Try.checked.mixed
 refine FnOK.of_body Try.func39 (by kernel_rfl) rfl (C := (mkCtx tyL [(55, validGraph_sp), (63, sbestCosts_sp), (72, bestTree_sp)])) hC.ty (by kernel_rfl) ?_
 intro (g : Graph) hwf hpre E
 have hpre : True := hpre
 have hw_g : Wf ⟨(.named 1), (g : Graph)⟩ := hwf _ (List.Mem.head _)
 have hl_g_Rows : ((List.length (Graph.Rows g) : Nat) : Int) ≤ 9223372036854775807 := (hw_g.field (tv := ⟨(.slice (.int .i64)), Graph.Rows g⟩) (List.Mem.head _)).len
 have hl_g_Edges : ((List.length (Graph.Edges g) : Nat) : Int) ≤ 9223372036854775807 := (hw_g.field (tv := ⟨(.slice (.named 0)), Graph.Edges g⟩) (List.Mem.tail _ (List.Mem.head _))).len
 have e0 : BestTree g = BestTree g := rfl
 refine AW.seq (AW.r1 hC [1, 2] [4, 8] ⟨[(1, .ref 4 1 0), (2, .ref 8 1 0)], [(4, .box 1 [.data (.slice (.int .i64)) ((Graph.Rows g) : List Int), .data (.slice (.named 0)) ((Graph.Edges g) : List Edge)]), (8, .box 1 [.int .i64 0, .nilsl])]⟩ ?_)
 refine AW.seq (AW.seq (AW.r0 hC [1, 2, 7] [4, 8] ⟨[(1, .ref 4 1 0), (2, .ref 8 1 0), (7, .bool (!(validGraph g)))], [(4, .box 1 [.data (.slice (.int .i64)) ((Graph.Rows g) : List Int), .data (.slice (.named 0)) ((Graph.Edges g) : List Edge)]), (8, .box 1 [.int .i64 0, .nilsl])]⟩ [(True)] ?_ ?_))
 ·
  refine ⟨?_, trivial⟩
  ·
   trivial
 refine AW.cd (!(validGraph g)) ?_ ?_
 ·
  intro h1
  have h1q : (validGraph g) = false := (Go.Am.not_pos h1)
  have e2 := e0.trans (Go.Am.bif_t h1)
  refine AW.seq (AW.r1 hC [2, 3] [8] ⟨[(2, .ref 8 1 0), (3, .int .i64 (-1))], [(8, .box 1 [.int .i64 0, .nilsl])]⟩ ?_)
  exact AW.ret (AW.retE (β := JoinTree × Int) (fun v => [⟨(.named 3), v.1⟩, ⟨(.int .i64), v.2⟩]) (fun v => []) (v := ((JoinTree.mk 0 ([] : List JoinTree)), (-1))) e2 (by kernel_rfl) rfl rfl)
 ·
  intro h3
  have h3q : (validGraph g) = true := (Go.Am.not_neg h3)
  have e4 := e0.trans (Go.Am.bif_f h3)
  refine AW.kp [1, 2] [4, 8] ⟨[(1, .ref 4 1 0), (2, .ref 8 1 0)], [(4, .box 1 [.data (.slice (.int .i64)) ((Graph.Rows g) : List Int), .data (.slice (.named 0)) ((Graph.Edges g) : List Edge)]), (8, .box 1 [.int .i64 0, .nilsl])]⟩ ?_
  refine AW.skip (AW.seq (AW.r0 hC [1, 2, 4] [4, 8, 40] ⟨[(1, .ref 4 1 0), (2, .ref 8 1 0), (4, .arr 40 1)], [(4, .box 1 [.data (.slice (.int .i64)) ((Graph.Rows g) : List Int), .data (.slice (.named 0)) ((Graph.Edges g) : List Edge)]), (8, .box 1 [.int .i64 0, .nilsl]), (40, .arr 1 (.int .i64) ((sbestCosts g) : List Int))]⟩ [(VG g)] ?_ ?_))
  ·
   refine ⟨?_, trivial⟩
   ·
    exact validGraph_iff.1 (by first | exact h3q | exact trivial)
  refine AW.seq (AW.frz 40 ⟨[(1, .ref 4 1 0), (2, .ref 8 1 0), (4, .data (.slice (.int .i64)) ((sbestCosts g) : List Int))], [(4, .box 1 [.data (.slice (.int .i64)) ((Graph.Rows g) : List Int), .data (.slice (.named 0)) ((Graph.Edges g) : List Edge)]), (8, .box 1 [.int .i64 0, .nilsl])]⟩ (by kernel_rfl) ?_)
  refine AW.d0 hC hM [2, 3] [8] ⟨[(2, .ref 8 1 0), (3, .int .i64 (List.getD (sbestCosts g) (Int.toNat (((List.length (sbestCosts g) : Nat) : Int) - 1)) 0))], [(8, .box 1 [.int .i64 (JoinTree.Leaf (bestTree g (sbestCosts g) (((List.length (sbestCosts g) : Nat) : Int) - 1))), .data (.slice (.named 3)) ((JoinTree.Kids (bestTree g (sbestCosts g) (((List.length (sbestCosts g) : Nat) : Int) - 1))) : List JoinTree)])]⟩ [(-9223372036854775808 ≤ (((List.length (sbestCosts g) : Nat) : Int) - 1) ∧ (((List.length (sbestCosts g) : Nat) : Int) - 1) ≤ 9223372036854775807), (VG g ∧ (Sm (sbestCosts g) 31000000000000000 ∧ 1 ≤ (((List.length (sbestCosts g) : Nat) : Int) - 1) ∧ (((List.length (sbestCosts g) : Nat) : Int) - 1) < ((List.length (sbestCosts g) : Nat) : Int))), (-9223372036854775808 ≤ (((List.length (sbestCosts g) : Nat) : Int) - 1) ∧ (((List.length (sbestCosts g) : Nat) : Int) - 1) ≤ 9223372036854775807), (0 ≤ (((List.length (sbestCosts g) : Nat) : Int) - 1) ∧ (((List.length (sbestCosts g) : Nat) : Int) - 1) < ((List.length (sbestCosts g) : Nat) : Int))] ?_ ?_
  ·
   refine ⟨?_, ?_, ?_, ?_, trivial⟩
   ·
    have hV := validGraph_iff.1 (by first | exact h3q | exact trivial)
    have h := spec_costs hV
    have hA := gAll_b hV
    omega
   ·
    have hV := validGraph_iff.1 (by first | exact h3q | exact trivial)
    have h := spec_costs hV
    have hA := gAll_b hV
    exact ⟨hV, h.1, by omega, by omega⟩
   ·
    have hV := validGraph_iff.1 (by first | exact h3q | exact trivial)
    have h := spec_costs hV
    have hA := gAll_b hV
    omega
   ·
    have hV := validGraph_iff.1 (by first | exact h3q | exact trivial)
    have h := spec_costs hV
    have hA := gAll_b hV
    omega
  exact AW.ret (AW.retE (β := JoinTree × Int) (fun v => [⟨(.named 3), v.1⟩, ⟨(.int .i64), v.2⟩]) (fun v => []) (v := ((JoinTree.mk (JoinTree.Leaf (bestTree g (sbestCosts g) (((List.length (sbestCosts g) : Nat) : Int) - 1))) (JoinTree.Kids (bestTree g (sbestCosts g) (((List.length (sbestCosts g) : Nat) : Int) - 1)))), (List.getD (sbestCosts g) (Int.toNat (((List.length (sbestCosts g) : Nat) : Int) - 1)) 0))) e4 (by kernel_rfl) rfl rfl)

end
end Go.Proofs.Ytgbapklfgjnggaa
