/-
  A part of the proof of this claim (AxX): what functions of the program compute, and plain facts of that. No conditions.
-/
import Derived.Test.YtgbapklfgjnggaaAxW
import Derived.Test.YtgbapklfgjnggaaAx8
set_option linter.all false
namespace Go.Proofs.Ytgbapklfgjnggaa
open Go Go.Am
noncomputable section

theorem firsts_FO {g : Graph} (hV : VG g) : FO (bestCosts g).2 := ⟨(firsts_ok hV).1, (firsts_ok hV).2⟩

def iBestTree (g : Graph) : JoinTree × Int := (bif (!(ValidGraph g)) then ((JoinTree.mk 0 ([] : List JoinTree)), (-1)) else ((JoinTree.mk (JoinTree.Leaf (treeOf ((bestCosts g).2) (gAll g))) (JoinTree.Kids (treeOf ((bestCosts g).2) (gAll g)))), (List.getD ((bestCosts g).1) (Int.toNat (gAll g)) 0)))

def iBestTree_sp : FnSpec := mkSpec [.val (.named 1)] [.val (.named 3), .val (.int .i64)] (fun (g : Graph) => True) (fun (g : Graph) => [⟨(.named 3), ((iBestTree g).1)⟩, ⟨(.int .i64), ((iBestTree g).2)⟩])

theorem iBestTree_ok : FnOK Try.prog 25 iBestTree_sp := by
 have hC : CtxOK Try.prog (mkCtx tyL [(52, ValidGraph_sp), (53, gAll_sp), (62, bestCosts_sp), (64, treeOf_sp)]) := CtxOK.cons ValidGraph_ok (CtxOK.cons gAll_ok (CtxOK.cons bestCosts_ok (CtxOK.cons treeOf_ok (CtxOK.nil tyOK))))
 have hM : Try.prog.follows .mixedOrders = true := Try.checked.mixed
 refine FnOK.of_body Try.func25 (by kernel_rfl) rfl (C := (mkCtx tyL [(52, ValidGraph_sp), (53, gAll_sp), (62, bestCosts_sp), (64, treeOf_sp)])) hC.ty (by kernel_rfl) ?_
 intro (g : Graph) hwf hpre E
 have hpre : True := hpre
 have hw_g : Wf ⟨(.named 1), (g : Graph)⟩ := hwf _ (List.Mem.head _)
 have hl_g_Rows : ((List.length (Graph.Rows g) : Nat) : Int) ≤ 9223372036854775807 := (hw_g.field (tv := ⟨(.slice (.int .i64)), Graph.Rows g⟩) (List.Mem.head _)).len
 have hl_g_Edges : ((List.length (Graph.Edges g) : Nat) : Int) ≤ 9223372036854775807 := (hw_g.field (tv := ⟨(.slice (.named 0)), Graph.Edges g⟩) (List.Mem.tail _ (List.Mem.head _))).len
 have e0 : iBestTree g = iBestTree g := rfl
 refine AW.seq (AW.r1 hC [1, 2] [4, 8] ⟨[(1, .ref 4 1 0), (2, .ref 8 1 0)], [(4, .box 1 [.data (.slice (.int .i64)) ((Graph.Rows g) : List Int), .data (.slice (.named 0)) ((Graph.Edges g) : List Edge)]), (8, .box 1 [.int .i64 0, .nilsl])]⟩ ?_)
 refine AW.seq (AW.seq (AW.r0U hC [1, 2, 8] [4, 8] [(8, .bool (!(ValidGraph g)))] [] [(True)] ?_ ?_))
 ·
  refine ⟨?_, trivial⟩
  ·
   trivial
 refine AW.cd (!(ValidGraph g)) ?_ ?_
 ·
  intro h1
  have h1q : (ValidGraph g) = false := (Go.Am.not_pos h1)
  have e2 := e0.trans (Go.Am.bif_t h1)
  refine AW.seq (AW.r1U hC [2, 3] [8] [(3, .int .i64 (-1))] [] ?_)
  exact AW.ret (AW.retE (β := JoinTree × Int) (fun v => [⟨(.named 3), v.1⟩, ⟨(.int .i64), v.2⟩]) (fun v => []) (v := ((JoinTree.mk 0 ([] : List JoinTree)), (-1))) e2 (by kernel_rfl) rfl rfl)
 ·
  intro h3
  have h3q : (ValidGraph g) = true := (Go.Am.not_neg h3)
  have e4 := e0.trans (Go.Am.bif_f h3)
  refine AW.kpU [1, 2] [4, 8] [] [] ?_
  refine AW.skip (AW.seq (AW.r0U hC [1, 2, 4, 5] [4, 8, 44, 45] [(4, .arr 44 1), (5, .arr 45 1)] [(44, .arr 1 (.int .i64) (((bestCosts g).1) : List Int)), (45, .arr 1 (.int .i64) (((bestCosts g).2) : List Int))] [(VG g)] ?_ ?_))
  ·
   refine ⟨?_, trivial⟩
   ·
    exact ValidGraph_iff.1 (by first | exact h3q | exact trivial)
  refine AW.seq (AW.d0U hC hM [2, 3] [8] [(3, .int .i64 (List.getD ((bestCosts g).1) (Int.toNat (gAll g)) 0))] [(8, .box 1 [.int .i64 (JoinTree.Leaf (treeOf ((bestCosts g).2) (gAll g))), .data (.slice (.named 3)) ((JoinTree.Kids (treeOf ((bestCosts g).2) (gAll g))) : List JoinTree)])] [(g.Rows.length ≤ 40), (FO ((bestCosts g).2) ∧ 0 ≤ (gAll g) ∧ (gAll g) < ((List.length ((bestCosts g).2) : Nat) : Int)), (g.Rows.length ≤ 40), (0 ≤ (gAll g) ∧ (gAll g) < ((List.length ((bestCosts g).1) : Nat) : Int))] ?_ ?_)
  ·
   refine ⟨?_, ?_, ?_, ?_, trivial⟩
   ·
    have hV := ValidGraph_iff.1 (by first | exact h3q | exact trivial)
    have := gn5 hV
    omega
   ·
    have hV := ValidGraph_iff.1 (by first | exact h3q | exact trivial)
    have hA := gAll_b hV
    have hl := (impl_best hV).2.1
    exact ⟨firsts_FO hV, by omega, by omega⟩
   ·
    have hV := ValidGraph_iff.1 (by first | exact h3q | exact trivial)
    have := gn5 hV
    omega
   ·
    have hV := ValidGraph_iff.1 (by first | exact h3q | exact trivial)
    have hA := gAll_b hV
    have hl := (impl_best hV).1
    omega
  exact AW.ret (AW.retE (β := JoinTree × Int) (fun v => [⟨(.named 3), v.1⟩, ⟨(.int .i64), v.2⟩]) (fun v => []) (v := ((JoinTree.mk (JoinTree.Leaf (treeOf ((bestCosts g).2) (gAll g))) (JoinTree.Kids (treeOf ((bestCosts g).2) (gAll g)))), (List.getD ((bestCosts g).1) (Int.toNat (gAll g)) 0))) e4 (by kernel_rfl) rfl rfl)

def Sm (l : List Int) (B : Int) : Prop := l.length ≤ 32 ∧ ∀ j : Nat, -B ≤ List.getD l j 0 ∧ List.getD l j 0 ≤ B

theorem Sm.set {l : List Int} {B : Int} (h : Sm l B) {i : Nat} {v : Int} (h0 : -B ≤ v) (h1 : v ≤ B) : Sm (List.set l i v) B := by
 refine ⟨by rw [List.length_set]; exact h.1, fun j => ?_⟩
 rw [List.getD_eq_getElem?_getD, List.getElem?_set]
 have := h.2 j
 rw [List.getD_eq_getElem?_getD] at this
 split
 ·
  split
  ·
   exact ⟨h0, h1⟩
  ·
   simp; omega
 ·
  exact this

theorem Sm.mono {l : List Int} {B C : Int} (h : Sm l B) (hB : B ≤ C) : Sm l C := ⟨h.1, fun j => by have := h.2 j; omega⟩

end
end Go.Proofs.Ytgbapklfgjnggaa
