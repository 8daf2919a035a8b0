/-
  A part of the proof of this claim (AjX): what functions of the program compute, and plain facts of that. No conditions.
-/
import Derived.Test.YtpoohhjlpepmfaaAjW
import Derived.Test.YtpoohhjlpepmfaaAj8
set_option linter.all false
namespace Go.Proofs.Ytpoohhjlpepmfaa
open Go Go.Am
noncomputable section

theorem firsts_FO {g : Graph} (hV : VG g) : FO (bestCosts g).2 := ⟨(firsts_ok hV).1, (firsts_ok hV).2⟩

def iBestTree (g : Graph) : JoinTree × Int := (bif (!(ValidGraph g)) then ((JoinTree.mk 0 ([] : List JoinTree)), (-1)) else ((JoinTree.mk (JoinTree.Leaf (treeOf ((bestCosts g).2) (gAll g))) (JoinTree.Kids (treeOf ((bestCosts g).2) (gAll g)))), (List.getD ((bestCosts g).1) (Int.toNat (gAll g)) 0)))

def iBestTree_sp : FnSpec := mkSpec [.val (.named 1)] [.val (.named 3), .val (.int .i64)] (fun (g : Graph) => True) (fun (g : Graph) => [⟨(.named 3), ((iBestTree g).1)⟩, ⟨(.int .i64), ((iBestTree g).2)⟩])

theorem iBestTree_ok : FnOK Try.prog 25 iBestTree_sp := by
 have hC : CtxOK Try.prog (mkCtx tyL [(42, ValidGraph_sp), (52, gAll_sp), (61, bestCosts_sp), (63, treeOf_sp)]) := CtxOK.cons ValidGraph_ok (CtxOK.cons gAll_ok (CtxOK.cons bestCosts_ok (CtxOK.cons treeOf_ok (CtxOK.nil tyOK))))
 have hM : Try.prog.follows .mixedOrders = true := Try.checked.mixed
 refine FnOK.of_body Try.func25 (by kernel_rfl) rfl (C := (mkCtx tyL [(42, ValidGraph_sp), (52, gAll_sp), (61, bestCosts_sp), (63, treeOf_sp)])) hC.ty (by kernel_rfl) ?_
 intro (g : Graph) hwf hpre E
 have hpre : True := hpre
 have hw_g : Wf ⟨(.named 1), (g : Graph)⟩ := hwf _ (List.Mem.head _)
 have hl_g_Rows : ((List.length (Graph.Rows g) : Nat) : Int) ≤ 9223372036854775807 := (hw_g.field (tv := ⟨(.slice (.int .i64)), Graph.Rows g⟩) (List.Mem.head _)).len
 have hl_g_Edges : ((List.length (Graph.Edges g) : Nat) : Int) ≤ 9223372036854775807 := (hw_g.field (tv := ⟨(.slice (.named 0)), Graph.Edges g⟩) (List.Mem.tail _ (List.Mem.head _))).len
 have e0 : iBestTree g = iBestTree g := rfl
 refine AW.seq (AW.r1 hC [1, 2] [4, 8] ⟨[(1, .ref 4 1 0), (2, .ref 8 1 0)], [(4, .box 1 [.data (.slice (.int .i64)) ((Graph.Rows g) : List Int), .data (.slice (.named 0)) ((Graph.Edges g) : List Edge)]), (8, .box 1 [.int .i64 0, .nilsl])]⟩ ?_)
 refine AW.seq (AW.seq (AW.r0 hC [1, 2, 8] [4, 8] ⟨[(1, .ref 4 1 0), (2, .ref 8 1 0), (8, .bool (!(ValidGraph g)))], [(4, .box 1 [.data (.slice (.int .i64)) ((Graph.Rows g) : List Int), .data (.slice (.named 0)) ((Graph.Edges g) : List Edge)]), (8, .box 1 [.int .i64 0, .nilsl])]⟩ [(True)] ?_ ?_))
 ·
  refine ⟨?_, trivial⟩
  ·
   trivial
 refine AW.cd (!(ValidGraph g)) ?_ ?_
 ·
  intro h1
  have h1q : (ValidGraph g) = false := (Go.Am.not_pos h1)
  have e2 := e0.trans (Go.Am.bif_t h1)
  refine AW.seq (AW.r1 hC [2, 3] [8] ⟨[(2, .ref 8 1 0), (3, .int .i64 (-1))], [(8, .box 1 [.int .i64 0, .nilsl])]⟩ ?_)
  exact AW.ret (AW.retE (β := JoinTree × Int) (fun v => [⟨(.named 3), v.1⟩, ⟨(.int .i64), v.2⟩]) (fun v => []) (v := ((JoinTree.mk 0 ([] : List JoinTree)), (-1))) e2 (by kernel_rfl) rfl rfl)
 ·
  intro h3
  have h3q : (ValidGraph g) = true := (Go.Am.not_neg h3)
  have e4 := e0.trans (Go.Am.bif_f h3)
  refine AW.kp [1, 2] [4, 8] ⟨[(1, .ref 4 1 0), (2, .ref 8 1 0)], [(4, .box 1 [.data (.slice (.int .i64)) ((Graph.Rows g) : List Int), .data (.slice (.named 0)) ((Graph.Edges g) : List Edge)]), (8, .box 1 [.int .i64 0, .nilsl])]⟩ ?_
  refine AW.skip (AW.seq (AW.r0 hC [1, 2, 4, 5] [4, 8, 44, 45] ⟨[(1, .ref 4 1 0), (2, .ref 8 1 0), (4, .arr 44 1), (5, .arr 45 1)], [(4, .box 1 [.data (.slice (.int .i64)) ((Graph.Rows g) : List Int), .data (.slice (.named 0)) ((Graph.Edges g) : List Edge)]), (8, .box 1 [.int .i64 0, .nilsl]), (44, .arr 1 (.int .i64) (((bestCosts g).1) : List Int)), (45, .arr 1 (.int .i64) (((bestCosts g).2) : List Int))]⟩ [(VG g)] ?_ ?_))
  ·
   refine ⟨?_, trivial⟩
   ·
    exact ValidGraph_iff.1 (by first | exact h3q | exact trivial)
  refine AW.seq (AW.d0 hC hM [2, 3] [8] ⟨[(2, .ref 8 1 0), (3, .int .i64 (List.getD ((bestCosts g).1) (Int.toNat (gAll g)) 0))], [(8, .box 1 [.int .i64 (JoinTree.Leaf (treeOf ((bestCosts g).2) (gAll g))), .data (.slice (.named 3)) ((JoinTree.Kids (treeOf ((bestCosts g).2) (gAll g))) : List JoinTree)])]⟩ [(g.Rows.length ≤ 40), (FO ((bestCosts g).2) ∧ 0 ≤ (gAll g) ∧ (gAll g) < ((List.length ((bestCosts g).2) : Nat) : Int)), (g.Rows.length ≤ 40), (0 ≤ (gAll g) ∧ (gAll g) < ((List.length ((bestCosts g).1) : Nat) : Int))] ?_ ?_)
  ·
   refine ⟨?_, ?_, ?_, ?_, trivial⟩
   ·
    have hV := ValidGraph_iff.1 (by first | exact h3q | exact trivial)
    have := gn5 hV
    omega
   ·
    have hV := ValidGraph_iff.1 (by first | exact h3q | exact trivial)
    have hA := gAll_b hV
    have hl := (impl_best hV).2.1
    exact ⟨firsts_FO hV, by omega, by omega⟩
   ·
    have hV := ValidGraph_iff.1 (by first | exact h3q | exact trivial)
    have := gn5 hV
    omega
   ·
    have hV := ValidGraph_iff.1 (by first | exact h3q | exact trivial)
    have hA := gAll_b hV
    have hl := (impl_best hV).1
    omega
  exact AW.ret (AW.retE (β := JoinTree × Int) (fun v => [⟨(.named 3), v.1⟩, ⟨(.int .i64), v.2⟩]) (fun v => []) (v := ((JoinTree.mk (JoinTree.Leaf (treeOf ((bestCosts g).2) (gAll g))) (JoinTree.Kids (treeOf ((bestCosts g).2) (gAll g)))), (List.getD ((bestCosts g).1) (Int.toNat (gAll g)) 0))) e4 (by kernel_rfl) rfl rfl)

def DrawBestCosts (code : List Int) : Graph := ((anyGraph (newReader code)).1)

def DrawBestCosts_sp : FnSpec := mkSpec [.val (.slice (.int .u8))] [.val (.named 1)] (fun (code : List Int) => True) (fun (code : List Int) => [⟨(.named 1), (DrawBestCosts code)⟩])

theorem DrawBestCosts_ok : FnOK Try.prog 21 DrawBestCosts_sp := by
 have hC : CtxOK Try.prog (mkCtx tyL [(49, newReader_sp), (50, anyGraph_sp)]) := CtxOK.cons newReader_ok (CtxOK.cons anyGraph_ok (CtxOK.nil tyOK))
 refine FnOK.of_body Try.func21 (by kernel_rfl) rfl (C := (mkCtx tyL [(49, newReader_sp), (50, anyGraph_sp)])) hC.ty (by kernel_rfl) ?_
 intro (code : List Int) hwf hpre E
 have hpre : True := hpre
 have hw_code : Wf ⟨(.slice (.int .u8)), (code : List Int)⟩ := hwf _ (List.Mem.head _)
 have hl_code : ((List.length code : Nat) : Int) ≤ 9223372036854775807 := hw_code.len
 have e0 : DrawBestCosts code = DrawBestCosts code := rfl
 refine AW.seq (AW.r1 hC [0, 2] [8] ⟨[(0, .data (.slice (.int .u8)) (code : List Int)), (2, .ref 8 1 0)], [(8, .box 1 [.nilsl, .nilsl])]⟩ ?_)
 refine AW.seq (AW.r0 hC [2] [8] ⟨[(2, .ref 8 1 0)], [(8, .box 1 [.data (.slice (.int .i64)) ((Graph.Rows ((anyGraph (newReader code)).1)) : List Int), .data (.slice (.named 0)) ((Graph.Edges ((anyGraph (newReader code)).1)) : List Edge)])]⟩ [(True), (0 ≤ (newReader code).p ∧ (newReader code).p ≤ 1000000000000)] ?_ ?_)
 ·
  refine ⟨?_, ?_, trivial⟩
  ·
   trivial
  ·
   have := newReader_p code
   omega
 exact AW.ret (AW.retE (β := Graph) (fun v => [⟨(.named 1), v⟩]) (fun v => []) (v := ((anyGraph (newReader code)).1)) e0 (by kernel_rfl) rfl rfl)

theorem Right.cb {g : Graph} (hV : VG g) {c : List Int} {M : Nat} (hM : M ≤ 32) (h : Right g c M) : CB c := by
 intro m
 induction m using Nat.strongRecOn with
 | _ m ih =>
  refine ⟨h.nn m, ?_⟩
  by_cases h0 : m = 0
  ·
   subst h0; rw [h.zero]; decide
  ·
   by_cases hm : m < M
   ·
    rw [h.eq m (by omega) hm]
    have hs := (sSize_b hV (m := (m : Int)) (by omega) (by omega)).2
    have hb := mn_mem (c := c) (mask := m) (parts (m : Int)) (-1, 0)
    unfold val
    by_cases hn : (best c m).1 < 0
    ·
     rw [decide_eq_true hn, cond_true]; omega
    ·
     rw [decide_eq_false hn, cond_false]
     rcases hb with hb | ⟨hb1, hb2⟩
     ·
      exact absurd (by unfold best; rw [hb]; decide) hn
     ·
      have hp := parts_part hb1
      have hp1 := hp.1
      have hp2 := hp.2.1
      have e1 := (ih (Int.toNat (mn c m (parts (m : Int)) (-1, 0)).2) (by omega)).2
      have e2 := (ih (m - Int.toNat (mn c m (parts (m : Int)) (-1, 0)).2) (by omega)).2
      unfold sumAt at hb2
      unfold best
      omega
   ·
    rw [h.above m (by omega)]; omega

def Sm (l : List Int) (B : Int) : Prop := l.length ≤ 32 ∧ ∀ j : Nat, -B ≤ List.getD l j 0 ∧ List.getD l j 0 ≤ B

theorem Sm.set {l : List Int} {B : Int} (h : Sm l B) {i : Nat} {v : Int} (h0 : -B ≤ v) (h1 : v ≤ B) : Sm (List.set l i v) B := by
 refine ⟨by rw [List.length_set]; exact h.1, fun j => ?_⟩
 rw [List.getD_eq_getElem?_getD, List.getElem?_set]
 have := h.2 j
 rw [List.getD_eq_getElem?_getD] at this
 split
 ·
  split
  ·
   exact ⟨h0, h1⟩
  ·
   simp; omega
 ·
  exact this

theorem Sm.mono {l : List Int} {B C : Int} (h : Sm l B) (hB : B ≤ C) : Sm l C := ⟨h.1, fun j => by have := h.2 j; omega⟩

theorem best_Sm (g : Graph) : Sm (BestCosts g) 31000000000000000 := by
 unfold BestCosts
 cases hv : validGraph g with
 | false =>
  simp only [Bool.not_false, cond_true]
  exact ⟨by decide, fun j => by simp⟩
 | true =>
  have hV := validGraph_iff.1 hv
  have hA := gAll_b hV
  have h := spec_best hV
  simp only [Bool.not_true, cond_false]
  refine ⟨by omega, fun j => ?_⟩
  have := CB_of (h.2.cb hV (by omega)) (by omega) j
  omega

def DrawCheckCosts_l0 (code : List Int) : Nat → Nat → Int → (List Int) → (List Int)
 | 0, mask, r1, costs => costs
 | k + 1, mask, r1, costs => (bif (decide (((mask : Nat) : Int) < ((List.length costs : Nat) : Int))) then (bif (bif (decide (((mask : Nat) : Int) < ((List.length costs : Nat) : Int))) then ((pick (Rdr.b ((anyGraph (newReader code)).2)) r1 3) == 0) else false) then (bif (decide (0 < (List.getD costs mask 0))) then (DrawCheckCosts_l0 code k (mask + 1) (r1 + 1) (List.set costs mask ((List.getD costs mask 0) + 1))) else (DrawCheckCosts_l0 code k (mask + 1) (r1 + 1) costs)) else costs) else costs)

def DrawCheckCosts (code : List Int) : Graph × (List Int) := (bif ((pick (Rdr.b ((anyGraph (newReader code)).2)) (Rdr.p ((anyGraph (newReader code)).2)) 4) == 0) then (bif (decide (0 < ((List.length (([] : List Int) ++ (BestCosts ((anyGraph (newReader code)).1))) : Nat) : Int))) then (((anyGraph (newReader code)).1), (List.set (([] : List Int) ++ (BestCosts ((anyGraph (newReader code)).1))) (Int.toNat (pick (Rdr.b ((anyGraph (newReader code)).2)) ((Rdr.p ((anyGraph (newReader code)).2)) + 1) ((List.length (([] : List Int) ++ (BestCosts ((anyGraph (newReader code)).1))) : Nat) : Int))) ((List.getD (([] : List Int) ++ (BestCosts ((anyGraph (newReader code)).1))) (Int.toNat (pick (Rdr.b ((anyGraph (newReader code)).2)) ((Rdr.p ((anyGraph (newReader code)).2)) + 1) ((List.length (([] : List Int) ++ (BestCosts ((anyGraph (newReader code)).1))) : Nat) : Int))) 0) + (one (Rdr.b ((anyGraph (newReader code)).2)) (((Rdr.p ((anyGraph (newReader code)).2)) + 1) + 1) ([1, (-1), 5] : List Int))))) else (((anyGraph (newReader code)).1), (([] : List Int) ++ (BestCosts ((anyGraph (newReader code)).1))))) else (bif ((pick (Rdr.b ((anyGraph (newReader code)).2)) (Rdr.p ((anyGraph (newReader code)).2)) 4) == 1) then (Go.Am.andThen (DrawCheckCosts_l0 code ((List.length (([] : List Int) ++ (BestCosts ((anyGraph (newReader code)).1)))) - 0 + 1) 0 ((Rdr.p ((anyGraph (newReader code)).2)) + 1) (([] : List Int) ++ (BestCosts ((anyGraph (newReader code)).1)))) (fun z => (fun (costs : List Int) => (((anyGraph (newReader code)).1), costs)) z)) else (((anyGraph (newReader code)).1), (([] : List Int) ++ (BestCosts ((anyGraph (newReader code)).1))))))

def DrawCheckCosts_sp : FnSpec := mkSpec [.val (.slice (.int .u8))] [.val (.named 1), .own (.int .i64)] (fun (code : List Int) => True) (fun (code : List Int) => [⟨(.named 1), ((DrawCheckCosts code).1)⟩, ⟨(.slice (.int .i64)), ((DrawCheckCosts code).2)⟩])

theorem DrawCheckCosts_ok : FnOK Try.prog 41 DrawCheckCosts_sp := by
 have hC : CtxOK Try.prog (mkCtx tyL [(24, BestCosts_sp), (49, newReader_sp), (50, anyGraph_sp), (51, pickS), (72, oneS)]) := CtxOK.cons BestCosts_ok (CtxOK.cons newReader_ok (CtxOK.cons anyGraph_ok (CtxOK.cons pickS_ok (CtxOK.cons oneS_ok (CtxOK.nil tyOK)))))
 have hM : Try.prog.follows .mixedOrders = true := Try.checked.mixed
 refine FnOK.of_body Try.func41 (by kernel_rfl) rfl (C := (mkCtx tyL [(24, BestCosts_sp), (49, newReader_sp), (50, anyGraph_sp), (51, pickS), (72, oneS)])) hC.ty (by kernel_rfl) ?_
 intro (code : List Int) hwf hpre E
 have hpre : True := hpre
 have hw_code : Wf ⟨(.slice (.int .u8)), (code : List Int)⟩ := hwf _ (List.Mem.head _)
 have hl_code : ((List.length code : Nat) : Int) ≤ 9223372036854775807 := hw_code.len
 have a := newReader_p code
 have b := anyGraph_p (newReader code)
 have hS := best_Sm (anyGraph (newReader code)).1
 have hone := fun p => one_mem (anyGraph (newReader code)).2.b p (l := ([1, (-1), 5] : List Int)) (by decide)
 simp only [List.mem_cons, List.not_mem_nil, or_false] at hone
 have e0 : DrawCheckCosts code = DrawCheckCosts code := rfl
 refine AW.seq (AW.r1 hC [0, 2] [8] ⟨[(0, .data (.slice (.int .u8)) (code : List Int)), (2, .ref 8 1 0)], [(8, .box 1 [.nilsl, .nilsl])]⟩ ?_)
 refine AW.seq (AW.r0 hC [2, 4] [8, 40] ⟨[(2, .ref 8 1 0), (4, .ref 40 1 0)], [(8, .box 1 [.nilsl, .nilsl]), (40, .box 1 [.data (.slice (.int .u8)) ((Rdr.b (newReader code)) : List Int), .int .i64 (Rdr.p (newReader code))])]⟩ [(True)] ?_ ?_)
 ·
  refine ⟨?_, trivial⟩
  ·
   trivial
 refine AW.seq (AW.r0 hC [2, 4, 5] [8, 20, 40] ⟨[(2, .ref 8 1 0), (4, .ref 40 1 0), (5, .ref 20 1 0)], [(8, .box 1 [.nilsl, .nilsl]), (20, .box 1 [.data (.slice (.int .i64)) ((Graph.Rows ((anyGraph (newReader code)).1)) : List Int), .data (.slice (.named 0)) ((Graph.Edges ((anyGraph (newReader code)).1)) : List Edge)]), (40, .box 1 [.data (.slice (.int .u8)) ((Rdr.b ((anyGraph (newReader code)).2)) : List Int), .int .i64 (Rdr.p ((anyGraph (newReader code)).2))])]⟩ [(0 ≤ (newReader code).p ∧ (newReader code).p ≤ 1000000000000)] ?_ ?_)
 ·
  refine ⟨?_, trivial⟩
  ·
   omega
 refine AW.seq (AW.r0 hC [2, 4, 5, 6] [8, 20, 40, 52] ⟨[(2, .ref 8 1 0), (4, .ref 40 1 0), (5, .ref 20 1 0), (6, .arr 52 1)], [(8, .box 1 [.nilsl, .nilsl]), (20, .box 1 [.data (.slice (.int .i64)) ((Graph.Rows ((anyGraph (newReader code)).1)) : List Int), .data (.slice (.named 0)) ((Graph.Edges ((anyGraph (newReader code)).1)) : List Edge)]), (40, .box 1 [.data (.slice (.int .u8)) ((Rdr.b ((anyGraph (newReader code)).2)) : List Int), .int .i64 (Rdr.p ((anyGraph (newReader code)).2))]), (52, .arr 1 (.int .i64) ((([] : List Int) ++ (BestCosts ((anyGraph (newReader code)).1))) : List Int))]⟩ [(True), (0 + ((List.length (BestCosts ((anyGraph (newReader code)).1)) : Nat) : Int) ≤ 4294967296)] ?_ ?_)
 ·
  refine ⟨?_, ?_, trivial⟩
  ·
   trivial
  ·
   have := hS.1
   omega
 refine AW.seq (AW.seq (AW.r0 hC [2, 4, 5, 6, 18] [8, 20, 40, 52] ⟨[(2, .ref 8 1 0), (4, .ref 40 1 0), (5, .ref 20 1 0), (6, .arr 52 1), (18, .int .i64 (pick (Rdr.b ((anyGraph (newReader code)).2)) (Rdr.p ((anyGraph (newReader code)).2)) 4))], [(8, .box 1 [.nilsl, .nilsl]), (20, .box 1 [.data (.slice (.int .i64)) ((Graph.Rows ((anyGraph (newReader code)).1)) : List Int), .data (.slice (.named 0)) ((Graph.Edges ((anyGraph (newReader code)).1)) : List Edge)]), (40, .box 1 [.data (.slice (.int .u8)) ((Rdr.b ((anyGraph (newReader code)).2)) : List Int), .int .i64 ((Rdr.p ((anyGraph (newReader code)).2)) + 1)]), (52, .arr 1 (.int .i64) ((([] : List Int) ++ (BestCosts ((anyGraph (newReader code)).1))) : List Int))]⟩ [(0 ≤ ((anyGraph (newReader code)).2).p ∧ ((anyGraph (newReader code)).2).p ≤ 1099511627776)] ?_ ?_))
 ·
  refine ⟨?_, trivial⟩
  ·
   omega
 refine AW.block (AW.seq (AW.r1 hC [2, 4, 5, 6, 18, 19] [8, 20, 40, 52] ⟨[(2, .ref 8 1 0), (4, .ref 40 1 0), (5, .ref 20 1 0), (6, .arr 52 1), (18, .int .i64 (pick (Rdr.b ((anyGraph (newReader code)).2)) (Rdr.p ((anyGraph (newReader code)).2)) 4)), (19, .bool ((pick (Rdr.b ((anyGraph (newReader code)).2)) (Rdr.p ((anyGraph (newReader code)).2)) 4) == 0))], [(8, .box 1 [.nilsl, .nilsl]), (20, .box 1 [.data (.slice (.int .i64)) ((Graph.Rows ((anyGraph (newReader code)).1)) : List Int), .data (.slice (.named 0)) ((Graph.Edges ((anyGraph (newReader code)).1)) : List Edge)]), (40, .box 1 [.data (.slice (.int .u8)) ((Rdr.b ((anyGraph (newReader code)).2)) : List Int), .int .i64 ((Rdr.p ((anyGraph (newReader code)).2)) + 1)]), (52, .arr 1 (.int .i64) ((([] : List Int) ++ (BestCosts ((anyGraph (newReader code)).1))) : List Int))]⟩ ?_))
 refine AW.cd ((pick (Rdr.b ((anyGraph (newReader code)).2)) (Rdr.p ((anyGraph (newReader code)).2)) 4) == 0) ?_ ?_
 ·
  intro h1
  have h1q : (pick (Rdr.b ((anyGraph (newReader code)).2)) (Rdr.p ((anyGraph (newReader code)).2)) 4) = 0 := (Go.Am.beq_pos h1)
  have e2 := e0.trans (Go.Am.bif_t h1)
  refine AW.seq (AW.r1 hC [2, 4, 5, 6, 23] [8, 20, 40, 52] ⟨[(2, .ref 8 1 0), (4, .ref 40 1 0), (5, .ref 20 1 0), (6, .arr 52 1), (23, .bool (decide (0 < ((List.length (([] : List Int) ++ (BestCosts ((anyGraph (newReader code)).1))) : Nat) : Int))))], [(8, .box 1 [.nilsl, .nilsl]), (20, .box 1 [.data (.slice (.int .i64)) ((Graph.Rows ((anyGraph (newReader code)).1)) : List Int), .data (.slice (.named 0)) ((Graph.Edges ((anyGraph (newReader code)).1)) : List Edge)]), (40, .box 1 [.data (.slice (.int .u8)) ((Rdr.b ((anyGraph (newReader code)).2)) : List Int), .int .i64 ((Rdr.p ((anyGraph (newReader code)).2)) + 1)]), (52, .arr 1 (.int .i64) ((([] : List Int) ++ (BestCosts ((anyGraph (newReader code)).1))) : List Int))]⟩ ?_)
  refine AW.cd (decide (0 < ((List.length (([] : List Int) ++ (BestCosts ((anyGraph (newReader code)).1))) : Nat) : Int))) ?_ ?_
  ·
   intro h3
   have h3q : 0 < ((List.length (([] : List Int) ++ (BestCosts ((anyGraph (newReader code)).1))) : Nat) : Int) := (of_decide_eq_true h3)
   have e4 := e2.trans (Go.Am.bif_t h3)
   refine AW.seq (AW.r0 hC [2, 4, 5, 6, 7] [8, 20, 40, 52] ⟨[(2, .ref 8 1 0), (4, .ref 40 1 0), (5, .ref 20 1 0), (6, .arr 52 1), (7, .int .i64 (pick (Rdr.b ((anyGraph (newReader code)).2)) ((Rdr.p ((anyGraph (newReader code)).2)) + 1) ((List.length (([] : List Int) ++ (BestCosts ((anyGraph (newReader code)).1))) : Nat) : Int)))], [(8, .box 1 [.nilsl, .nilsl]), (20, .box 1 [.data (.slice (.int .i64)) ((Graph.Rows ((anyGraph (newReader code)).1)) : List Int), .data (.slice (.named 0)) ((Graph.Edges ((anyGraph (newReader code)).1)) : List Edge)]), (40, .box 1 [.data (.slice (.int .u8)) ((Rdr.b ((anyGraph (newReader code)).2)) : List Int), .int .i64 (((Rdr.p ((anyGraph (newReader code)).2)) + 1) + 1)]), (52, .arr 1 (.int .i64) ((([] : List Int) ++ (BestCosts ((anyGraph (newReader code)).1))) : List Int))]⟩ [(0 ≤ (Rdr.mk (Rdr.b ((anyGraph (newReader code)).2)) ((Rdr.p ((anyGraph (newReader code)).2)) + 1)).p ∧ (Rdr.mk (Rdr.b ((anyGraph (newReader code)).2)) ((Rdr.p ((anyGraph (newReader code)).2)) + 1)).p ≤ 1099511627776)] ?_ ?_)
   ·
    refine ⟨?_, trivial⟩
    ·
     dsimp only; omega
   refine AW.d0 hC hM [2, 5, 6] [8, 20, 52] ⟨[(2, .ref 8 1 0), (5, .ref 20 1 0), (6, .arr 52 1)], [(8, .box 1 [.nilsl, .nilsl]), (20, .box 1 [.data (.slice (.int .i64)) ((Graph.Rows ((anyGraph (newReader code)).1)) : List Int), .data (.slice (.named 0)) ((Graph.Edges ((anyGraph (newReader code)).1)) : List Edge)]), (52, .arr 1 (.int .i64) ((List.set (([] : List Int) ++ (BestCosts ((anyGraph (newReader code)).1))) (Int.toNat (pick (Rdr.b ((anyGraph (newReader code)).2)) ((Rdr.p ((anyGraph (newReader code)).2)) + 1) ((List.length (([] : List Int) ++ (BestCosts ((anyGraph (newReader code)).1))) : Nat) : Int))) ((List.getD (([] : List Int) ++ (BestCosts ((anyGraph (newReader code)).1))) (Int.toNat (pick (Rdr.b ((anyGraph (newReader code)).2)) ((Rdr.p ((anyGraph (newReader code)).2)) + 1) ((List.length (([] : List Int) ++ (BestCosts ((anyGraph (newReader code)).1))) : Nat) : Int))) 0) + (one (Rdr.b ((anyGraph (newReader code)).2)) (((Rdr.p ((anyGraph (newReader code)).2)) + 1) + 1) ([1, (-1), 5] : List Int)))) : List Int))]⟩ [(0 ≤ (pick (Rdr.b ((anyGraph (newReader code)).2)) ((Rdr.p ((anyGraph (newReader code)).2)) + 1) ((List.length (([] : List Int) ++ (BestCosts ((anyGraph (newReader code)).1))) : Nat) : Int)) ∧ (pick (Rdr.b ((anyGraph (newReader code)).2)) ((Rdr.p ((anyGraph (newReader code)).2)) + 1) ((List.length (([] : List Int) ++ (BestCosts ((anyGraph (newReader code)).1))) : Nat) : Int)) < ((List.length (([] : List Int) ++ (BestCosts ((anyGraph (newReader code)).1))) : Nat) : Int)), ((0 ≤ (Rdr.mk (Rdr.b ((anyGraph (newReader code)).2)) (((Rdr.p ((anyGraph (newReader code)).2)) + 1) + 1)).p ∧ (Rdr.mk (Rdr.b ((anyGraph (newReader code)).2)) (((Rdr.p ((anyGraph (newReader code)).2)) + 1) + 1)).p ≤ 1099511627775) ∧ 1 ≤ (List.length ([1, (-1), 5] : List Int) : Int)), (-9223372036854775808 ≤ ((List.getD (([] : List Int) ++ (BestCosts ((anyGraph (newReader code)).1))) (Int.toNat (pick (Rdr.b ((anyGraph (newReader code)).2)) ((Rdr.p ((anyGraph (newReader code)).2)) + 1) ((List.length (([] : List Int) ++ (BestCosts ((anyGraph (newReader code)).1))) : Nat) : Int))) 0) + (one (Rdr.b ((anyGraph (newReader code)).2)) (((Rdr.p ((anyGraph (newReader code)).2)) + 1) + 1) ([1, (-1), 5] : List Int))) ∧ ((List.getD (([] : List Int) ++ (BestCosts ((anyGraph (newReader code)).1))) (Int.toNat (pick (Rdr.b ((anyGraph (newReader code)).2)) ((Rdr.p ((anyGraph (newReader code)).2)) + 1) ((List.length (([] : List Int) ++ (BestCosts ((anyGraph (newReader code)).1))) : Nat) : Int))) 0) + (one (Rdr.b ((anyGraph (newReader code)).2)) (((Rdr.p ((anyGraph (newReader code)).2)) + 1) + 1) ([1, (-1), 5] : List Int))) ≤ 9223372036854775807), (0 ≤ (pick (Rdr.b ((anyGraph (newReader code)).2)) ((Rdr.p ((anyGraph (newReader code)).2)) + 1) ((List.length (([] : List Int) ++ (BestCosts ((anyGraph (newReader code)).1))) : Nat) : Int)) ∧ (pick (Rdr.b ((anyGraph (newReader code)).2)) ((Rdr.p ((anyGraph (newReader code)).2)) + 1) ((List.length (([] : List Int) ++ (BestCosts ((anyGraph (newReader code)).1))) : Nat) : Int)) < ((List.length (([] : List Int) ++ (BestCosts ((anyGraph (newReader code)).1))) : Nat) : Int))] ?_ ?_
   ·
    refine ⟨?_, ?_, ?_, ?_, trivial⟩
    ·
     exact pick_ok _ _ (by omega)
    ·
     refine ⟨by dsimp only; omega, by decide⟩
    ·
     rw [List.nil_append]
     have h1 := hS.2 (Int.toNat (pick (anyGraph (newReader code)).2.b ((anyGraph (newReader code)).2.p + 1) ((List.length (BestCosts (anyGraph (newReader code)).1) : Nat) : Int)))
     have h2 := hone ((anyGraph (newReader code)).2.p + 1 + 1)
     omega
    ·
     exact pick_ok _ _ (by omega)
   refine AW.seq (AW.r1 hC [2, 3] [8, 52] ⟨[(2, .ref 8 1 0), (3, .arr 52 1)], [(8, .box 1 [.data (.slice (.int .i64)) ((Graph.Rows ((anyGraph (newReader code)).1)) : List Int), .data (.slice (.named 0)) ((Graph.Edges ((anyGraph (newReader code)).1)) : List Edge)]), (52, .arr 1 (.int .i64) ((List.set (([] : List Int) ++ (BestCosts ((anyGraph (newReader code)).1))) (Int.toNat (pick (Rdr.b ((anyGraph (newReader code)).2)) ((Rdr.p ((anyGraph (newReader code)).2)) + 1) ((List.length (([] : List Int) ++ (BestCosts ((anyGraph (newReader code)).1))) : Nat) : Int))) ((List.getD (([] : List Int) ++ (BestCosts ((anyGraph (newReader code)).1))) (Int.toNat (pick (Rdr.b ((anyGraph (newReader code)).2)) ((Rdr.p ((anyGraph (newReader code)).2)) + 1) ((List.length (([] : List Int) ++ (BestCosts ((anyGraph (newReader code)).1))) : Nat) : Int))) 0) + (one (Rdr.b ((anyGraph (newReader code)).2)) (((Rdr.p ((anyGraph (newReader code)).2)) + 1) + 1) ([1, (-1), 5] : List Int)))) : List Int))]⟩ ?_)
   exact AW.ret (AW.retE (β := Graph × (List Int)) (fun v => [⟨(.named 1), v.1⟩, ⟨(.slice (.int .i64)), v.2⟩]) (fun v => []) (v := (((anyGraph (newReader code)).1), (List.set (([] : List Int) ++ (BestCosts ((anyGraph (newReader code)).1))) (Int.toNat (pick (Rdr.b ((anyGraph (newReader code)).2)) ((Rdr.p ((anyGraph (newReader code)).2)) + 1) ((List.length (([] : List Int) ++ (BestCosts ((anyGraph (newReader code)).1))) : Nat) : Int))) ((List.getD (([] : List Int) ++ (BestCosts ((anyGraph (newReader code)).1))) (Int.toNat (pick (Rdr.b ((anyGraph (newReader code)).2)) ((Rdr.p ((anyGraph (newReader code)).2)) + 1) ((List.length (([] : List Int) ++ (BestCosts ((anyGraph (newReader code)).1))) : Nat) : Int))) 0) + (one (Rdr.b ((anyGraph (newReader code)).2)) (((Rdr.p ((anyGraph (newReader code)).2)) + 1) + 1) ([1, (-1), 5] : List Int)))))) e4 (by kernel_rfl) rfl rfl)
  ·
   intro h5
   have h5q : ¬ (0 < ((List.length (([] : List Int) ++ (BestCosts ((anyGraph (newReader code)).1))) : Nat) : Int)) := (of_decide_eq_false h5)
   have e6 := e2.trans (Go.Am.bif_f h5)
   refine AW.kp [2, 5, 6] [8, 20, 52] ⟨[(2, .ref 8 1 0), (5, .ref 20 1 0), (6, .arr 52 1)], [(8, .box 1 [.nilsl, .nilsl]), (20, .box 1 [.data (.slice (.int .i64)) ((Graph.Rows ((anyGraph (newReader code)).1)) : List Int), .data (.slice (.named 0)) ((Graph.Edges ((anyGraph (newReader code)).1)) : List Edge)]), (52, .arr 1 (.int .i64) ((([] : List Int) ++ (BestCosts ((anyGraph (newReader code)).1))) : List Int))]⟩ ?_
   refine AW.skip (AW.seq (AW.r1 hC [2, 3] [8, 52] ⟨[(2, .ref 8 1 0), (3, .arr 52 1)], [(8, .box 1 [.data (.slice (.int .i64)) ((Graph.Rows ((anyGraph (newReader code)).1)) : List Int), .data (.slice (.named 0)) ((Graph.Edges ((anyGraph (newReader code)).1)) : List Edge)]), (52, .arr 1 (.int .i64) ((([] : List Int) ++ (BestCosts ((anyGraph (newReader code)).1))) : List Int))]⟩ ?_))
   exact AW.ret (AW.retE (β := Graph × (List Int)) (fun v => [⟨(.named 1), v.1⟩, ⟨(.slice (.int .i64)), v.2⟩]) (fun v => []) (v := (((anyGraph (newReader code)).1), (([] : List Int) ++ (BestCosts ((anyGraph (newReader code)).1))))) e6 (by kernel_rfl) rfl rfl)
 ·
  intro h7
  have h7q : (pick (Rdr.b ((anyGraph (newReader code)).2)) (Rdr.p ((anyGraph (newReader code)).2)) 4) ≠ 0 := (Go.Am.beq_neg h7)
  have e8 := e0.trans (Go.Am.bif_f h7)
  refine AW.seq (AW.r1 hC [2, 4, 5, 6, 39] [8, 20, 40, 52] ⟨[(2, .ref 8 1 0), (4, .ref 40 1 0), (5, .ref 20 1 0), (6, .arr 52 1), (39, .bool ((pick (Rdr.b ((anyGraph (newReader code)).2)) (Rdr.p ((anyGraph (newReader code)).2)) 4) == 1))], [(8, .box 1 [.nilsl, .nilsl]), (20, .box 1 [.data (.slice (.int .i64)) ((Graph.Rows ((anyGraph (newReader code)).1)) : List Int), .data (.slice (.named 0)) ((Graph.Edges ((anyGraph (newReader code)).1)) : List Edge)]), (40, .box 1 [.data (.slice (.int .u8)) ((Rdr.b ((anyGraph (newReader code)).2)) : List Int), .int .i64 ((Rdr.p ((anyGraph (newReader code)).2)) + 1)]), (52, .arr 1 (.int .i64) ((([] : List Int) ++ (BestCosts ((anyGraph (newReader code)).1))) : List Int))]⟩ ?_)
  refine AW.cd ((pick (Rdr.b ((anyGraph (newReader code)).2)) (Rdr.p ((anyGraph (newReader code)).2)) 4) == 1) ?_ ?_
  ·
   intro h9
   have h9q : (pick (Rdr.b ((anyGraph (newReader code)).2)) (Rdr.p ((anyGraph (newReader code)).2)) 4) = 1 := (Go.Am.beq_pos h9)
   have e10 := e8.trans (Go.Am.bif_t h9)
   refine AW.seq (AW.r1 hC [2, 4, 5, 6, 8] [8, 20, 40, 52] ⟨[(2, .ref 8 1 0), (4, .ref 40 1 0), (5, .ref 20 1 0), (6, .arr 52 1), (8, .int .i64 0)], [(8, .box 1 [.nilsl, .nilsl]), (20, .box 1 [.data (.slice (.int .i64)) ((Graph.Rows ((anyGraph (newReader code)).1)) : List Int), .data (.slice (.named 0)) ((Graph.Edges ((anyGraph (newReader code)).1)) : List Edge)]), (40, .box 1 [.data (.slice (.int .u8)) ((Rdr.b ((anyGraph (newReader code)).2)) : List Int), .int .i64 ((Rdr.p ((anyGraph (newReader code)).2)) + 1)]), (52, .arr 1 (.int .i64) ((([] : List Int) ++ (BestCosts ((anyGraph (newReader code)).1))) : List Int))]⟩ ?_)
   refine AW.cutQ (α := (List Int)) (fun x => ⟨[(2, .ref 8 1 0), (5, .ref 20 1 0), (6, .arr 52 1)], [(8, .box 1 [.nilsl, .nilsl]), (20, .box 1 [.data (.slice (.int .i64)) ((Graph.Rows ((anyGraph (newReader code)).1)) : List Int), .data (.slice (.named 0)) ((Graph.Edges ((anyGraph (newReader code)).1)) : List Edge)]), (52, .arr 1 (.int .i64) (x : List Int))]⟩) (fun x => (True) ∧ (DrawCheckCosts_l0 code ((List.length (([] : List Int) ++ (BestCosts ((anyGraph (newReader code)).1)))) - 0 + 1) 0 ((Rdr.p ((anyGraph (newReader code)).2)) + 1) (([] : List Int) ++ (BestCosts ((anyGraph (newReader code)).1)))) = x) ?_ ?_
   ·
    skip
    refine AW.block (AW.loop (α := Nat × Int × (List Int)) (fun x => ⟨[(2, .ref 8 1 0), (4, .ref 40 1 0), (5, .ref 20 1 0), (6, .arr 52 1), (8, .int .i64 ((x.1 : Nat) : Int))], [(8, .box 1 [.nilsl, .nilsl]), (20, .box 1 [.data (.slice (.int .i64)) ((Graph.Rows ((anyGraph (newReader code)).1)) : List Int), .data (.slice (.named 0)) ((Graph.Edges ((anyGraph (newReader code)).1)) : List Edge)]), (40, .box 1 [.data (.slice (.int .u8)) ((Rdr.b ((anyGraph (newReader code)).2)) : List Int), .int .i64 x.2.1]), (52, .arr 1 (.int .i64) (x.2.2 : List Int))]⟩) (fun x => ((Sm x.2.2 (31000000000000000 + (x.1 : Int)) ∧ x.1 ≤ List.length x.2.2) ∧ (0 ≤ x.2.1 ∧ x.2.1 ≤ 41 + (x.1 : Int))) ∧ ∃ k, (List.length x.2.2) - x.1 < k ∧ (DrawCheckCosts_l0 code ((List.length (([] : List Int) ++ (BestCosts ((anyGraph (newReader code)).1)))) - 0 + 1) 0 ((Rdr.p ((anyGraph (newReader code)).2)) + 1) (([] : List Int) ++ (BestCosts ((anyGraph (newReader code)).1)))) = DrawCheckCosts_l0 code k x.1 x.2.1 x.2.2) (fun x => (List.length x.2.2) - x.1) (0, ((Rdr.p ((anyGraph (newReader code)).2)) + 1), (([] : List Int) ++ (BestCosts ((anyGraph (newReader code)).1)))) (by kernel_rfl) ⟨?_, _, Nat.lt_succ_self _, rfl⟩ ?_)
    ·
     show (Sm (([] : List Int) ++ (BestCosts ((anyGraph (newReader code)).1))) (31000000000000000 + (0 : Int)) ∧ 0 ≤ List.length (([] : List Int) ++ (BestCosts ((anyGraph (newReader code)).1)))) ∧ (0 ≤ ((Rdr.p ((anyGraph (newReader code)).2)) + 1) ∧ ((Rdr.p ((anyGraph (newReader code)).2)) + 1) ≤ 41 + (0 : Int))
     exact ⟨⟨by rw [List.nil_append]; exact hS.mono (by omega), Nat.zero_le _⟩, by omega⟩
    ·
     intro x hR
     obtain ⟨mask, r1, costs⟩ := x
     obtain ⟨hI0, k49, hk47, e48⟩ := hR
     replace hI0 : (Sm costs (31000000000000000 + (mask : Int)) ∧ mask ≤ List.length costs) ∧ (0 ≤ r1 ∧ r1 ≤ 41 + (mask : Int)) := hI0
     replace hk47 : (List.length costs) - mask < k49 := hk47
     obtain ⟨k49q, rfl⟩ : ∃ k, k49 = k + 1 := ⟨k49 - 1, by omega⟩
     have hc := hI0.1.1.2 mask
     have hS1 := hI0.1.1.1
     refine AW.seq (AW.seq ?_)
     refine Go.Am.bsplit (b := (decide (((mask : Nat) : Int) < ((List.length costs : Nat) : Int)))) ?_ ?_
     ·
      intro h50
      have h50q : ((mask : Nat) : Int) < ((List.length costs : Nat) : Int) := (of_decide_eq_true h50)
      have e51 := e48.trans (Go.Am.bif_t h50)
      refine AW.reg hC  false [(45, true)] [2, 4, 5, 6, 8, 49] [8, 20, 40, 52]
       ⟨[(2, .ref 8 1 0), (4, .ref 40 1 0), (5, .ref 20 1 0), (6, .arr 52 1), (8, .int .i64 ((mask : Nat) : Int)), (49, .bool (bif (decide (((mask : Nat) : Int) < ((List.length costs : Nat) : Int))) then ((pick (Rdr.b ((anyGraph (newReader code)).2)) r1 3) == 0) else false))], [(8, .box 1 [.nilsl, .nilsl]), (20, .box 1 [.data (.slice (.int .i64)) ((Graph.Rows ((anyGraph (newReader code)).1)) : List Int), .data (.slice (.named 0)) ((Graph.Edges ((anyGraph (newReader code)).1)) : List Edge)]), (40, .box 1 [.data (.slice (.int .u8)) ((Rdr.b ((anyGraph (newReader code)).2)) : List Int), .int .i64 (r1 + 1)]), (52, .arr 1 (.int .i64) (costs : List Int))]⟩
       [((decide (((mask : Nat) : Int) < ((List.length costs : Nat) : Int))) = true), ((decide (((mask : Nat) : Int) < ((List.length costs : Nat) : Int))) = true), (0 ≤ (Rdr.mk (Rdr.b ((anyGraph (newReader code)).2)) r1).p ∧ (Rdr.mk (Rdr.b ((anyGraph (newReader code)).2)) r1).p ≤ 1099511627776), ((decide (((mask : Nat) : Int) < ((List.length costs : Nat) : Int))) = true)] (by kernel_rfl) ?_ ?_
      ·
       refine ⟨?_, ?_, ?_, ?_, trivial⟩
       ·
        assumption
       ·
        assumption
       ·
        dsimp only; omega
       ·
        assumption
      refine AW.cd (bif (decide (((mask : Nat) : Int) < ((List.length costs : Nat) : Int))) then ((pick (Rdr.b ((anyGraph (newReader code)).2)) r1 3) == 0) else false) ?_ ?_
      ·
       intro h52
       have h52q : (((mask : Nat) : Int) < ((List.length costs : Nat) : Int)) ∧ ((pick (Rdr.b ((anyGraph (newReader code)).2)) r1 3) = 0) := (And.imp (fun h => (of_decide_eq_true h)) (fun h => (Go.Am.beq_pos h)) (Go.Am.and_pos h52))
       have e53 := e51.trans (Go.Am.bif_t h52)
       refine AW.kp [2, 4, 5, 6, 8] [8, 20, 40, 52] ⟨[(2, .ref 8 1 0), (4, .ref 40 1 0), (5, .ref 20 1 0), (6, .arr 52 1), (8, .int .i64 ((mask : Nat) : Int))], [(8, .box 1 [.nilsl, .nilsl]), (20, .box 1 [.data (.slice (.int .i64)) ((Graph.Rows ((anyGraph (newReader code)).1)) : List Int), .data (.slice (.named 0)) ((Graph.Edges ((anyGraph (newReader code)).1)) : List Edge)]), (40, .box 1 [.data (.slice (.int .u8)) ((Rdr.b ((anyGraph (newReader code)).2)) : List Int), .int .i64 (r1 + 1)]), (52, .arr 1 (.int .i64) (costs : List Int))]⟩ ?_
       refine AW.skip (AW.seq (AW.block (AW.seq (AW.r0 hC [2, 4, 5, 6, 8, 56] [8, 20, 40, 52] ⟨[(2, .ref 8 1 0), (4, .ref 40 1 0), (5, .ref 20 1 0), (6, .arr 52 1), (8, .int .i64 ((mask : Nat) : Int)), (56, .bool (decide (0 < (List.getD costs mask 0))))], [(8, .box 1 [.nilsl, .nilsl]), (20, .box 1 [.data (.slice (.int .i64)) ((Graph.Rows ((anyGraph (newReader code)).1)) : List Int), .data (.slice (.named 0)) ((Graph.Edges ((anyGraph (newReader code)).1)) : List Edge)]), (40, .box 1 [.data (.slice (.int .u8)) ((Rdr.b ((anyGraph (newReader code)).2)) : List Int), .int .i64 (r1 + 1)]), (52, .arr 1 (.int .i64) (costs : List Int))]⟩ [(0 ≤ ((mask : Nat) : Int) ∧ ((mask : Nat) : Int) < ((List.length costs : Nat) : Int))] ?_ ?_))))
       ·
        refine ⟨?_, trivial⟩
        ·
         omega
       refine AW.cd (decide (0 < (List.getD costs mask 0))) ?_ ?_
       ·
        intro h54
        have h54q : 0 < (List.getD costs mask 0) := (of_decide_eq_true h54)
        have e55 := e53.trans (Go.Am.bif_t h54)
        refine AW.r0 hC [2, 4, 5, 6, 8] [8, 20, 40, 52] ⟨[(2, .ref 8 1 0), (4, .ref 40 1 0), (5, .ref 20 1 0), (6, .arr 52 1), (8, .int .i64 ((mask : Nat) : Int))], [(8, .box 1 [.nilsl, .nilsl]), (20, .box 1 [.data (.slice (.int .i64)) ((Graph.Rows ((anyGraph (newReader code)).1)) : List Int), .data (.slice (.named 0)) ((Graph.Edges ((anyGraph (newReader code)).1)) : List Edge)]), (40, .box 1 [.data (.slice (.int .u8)) ((Rdr.b ((anyGraph (newReader code)).2)) : List Int), .int .i64 (r1 + 1)]), (52, .arr 1 (.int .i64) ((List.set costs mask ((List.getD costs mask 0) + 1)) : List Int))]⟩ [(0 ≤ ((mask : Nat) : Int) ∧ ((mask : Nat) : Int) < ((List.length costs : Nat) : Int)), (-9223372036854775808 ≤ ((List.getD costs mask 0) + 1) ∧ ((List.getD costs mask 0) + 1) ≤ 9223372036854775807), (0 ≤ ((mask : Nat) : Int) ∧ ((mask : Nat) : Int) < ((List.length costs : Nat) : Int))] ?_ ?_
        ·
         refine ⟨?_, ?_, ?_, trivial⟩
         ·
          omega
         ·
          omega
         ·
          omega
        refine AW.r0 hC [2, 4, 5, 6, 8] [8, 20, 40, 52] ⟨[(2, .ref 8 1 0), (4, .ref 40 1 0), (5, .ref 20 1 0), (6, .arr 52 1), (8, .int .i64 ((mask + 1 : Nat) : Int))], [(8, .box 1 [.nilsl, .nilsl]), (20, .box 1 [.data (.slice (.int .i64)) ((Graph.Rows ((anyGraph (newReader code)).1)) : List Int), .data (.slice (.named 0)) ((Graph.Edges ((anyGraph (newReader code)).1)) : List Edge)]), (40, .box 1 [.data (.slice (.int .u8)) ((Rdr.b ((anyGraph (newReader code)).2)) : List Int), .int .i64 (r1 + 1)]), (52, .arr 1 (.int .i64) ((List.set costs mask ((List.getD costs mask 0) + 1)) : List Int))]⟩ [(-9223372036854775808 ≤ ((mask + 1 : Nat) : Int) ∧ ((mask + 1 : Nat) : Int) ≤ 9223372036854775807)] ?_ ?_
        ·
         refine ⟨?_, trivial⟩
         ·
          omega
        refine AW.back (x := (mask, r1, costs)) (mask + 1, (r1 + 1), (List.set costs mask ((List.getD costs mask 0) + 1))) (by kernel_rfl) ⟨?_, k49q, ?_, e55⟩ ?_
        ·
         show (Sm (List.set costs mask ((List.getD costs mask 0) + 1)) (31000000000000000 + ((mask + 1) : Int)) ∧ (mask + 1) ≤ List.length (List.set costs mask ((List.getD costs mask 0) + 1))) ∧ (0 ≤ (r1 + 1) ∧ (r1 + 1) ≤ 41 + ((mask + 1) : Int))
         exact ⟨⟨(hI0.1.1.mono (by omega)).set (by omega) (by omega), by rw [List.length_set]; omega⟩, by omega⟩
        ·
         show (List.length (List.set costs mask ((List.getD costs mask 0) + 1))) - (mask + 1) < k49q
         simp only [lens]; omega
        ·
         show (List.length (List.set costs mask ((List.getD costs mask 0) + 1))) - (mask + 1) < (List.length costs) - mask
         simp only [lens]; omega
       ·
        intro h56
        have h56q : ¬ (0 < (List.getD costs mask 0)) := (of_decide_eq_false h56)
        have e57 := e53.trans (Go.Am.bif_f h56)
        refine AW.kp [2, 4, 5, 6, 8] [8, 20, 40, 52] ⟨[(2, .ref 8 1 0), (4, .ref 40 1 0), (5, .ref 20 1 0), (6, .arr 52 1), (8, .int .i64 ((mask : Nat) : Int))], [(8, .box 1 [.nilsl, .nilsl]), (20, .box 1 [.data (.slice (.int .i64)) ((Graph.Rows ((anyGraph (newReader code)).1)) : List Int), .data (.slice (.named 0)) ((Graph.Edges ((anyGraph (newReader code)).1)) : List Edge)]), (40, .box 1 [.data (.slice (.int .u8)) ((Rdr.b ((anyGraph (newReader code)).2)) : List Int), .int .i64 (r1 + 1)]), (52, .arr 1 (.int .i64) (costs : List Int))]⟩ ?_
        refine AW.skip (AW.r0 hC [2, 4, 5, 6, 8] [8, 20, 40, 52] ⟨[(2, .ref 8 1 0), (4, .ref 40 1 0), (5, .ref 20 1 0), (6, .arr 52 1), (8, .int .i64 ((mask + 1 : Nat) : Int))], [(8, .box 1 [.nilsl, .nilsl]), (20, .box 1 [.data (.slice (.int .i64)) ((Graph.Rows ((anyGraph (newReader code)).1)) : List Int), .data (.slice (.named 0)) ((Graph.Edges ((anyGraph (newReader code)).1)) : List Edge)]), (40, .box 1 [.data (.slice (.int .u8)) ((Rdr.b ((anyGraph (newReader code)).2)) : List Int), .int .i64 (r1 + 1)]), (52, .arr 1 (.int .i64) (costs : List Int))]⟩ [(-9223372036854775808 ≤ ((mask + 1 : Nat) : Int) ∧ ((mask + 1 : Nat) : Int) ≤ 9223372036854775807)] ?_ ?_)
        ·
         refine ⟨?_, trivial⟩
         ·
          omega
        refine AW.back (x := (mask, r1, costs)) (mask + 1, (r1 + 1), costs) (by kernel_rfl) ⟨?_, k49q, ?_, e57⟩ ?_
        ·
         show (Sm costs (31000000000000000 + ((mask + 1) : Int)) ∧ (mask + 1) ≤ List.length costs) ∧ (0 ≤ (r1 + 1) ∧ (r1 + 1) ≤ 41 + ((mask + 1) : Int))
         exact ⟨⟨hI0.1.1.mono (by omega), by omega⟩, by omega⟩
        ·
         show (List.length costs) - (mask + 1) < k49q
         omega
        ·
         show (List.length costs) - (mask + 1) < (List.length costs) - mask
         omega
      ·
       intro h58
       have h58q : (¬ (((mask : Nat) : Int) < ((List.length costs : Nat) : Int))) ∨ ((pick (Rdr.b ((anyGraph (newReader code)).2)) r1 3) ≠ 0) := (Or.imp (fun h => (of_decide_eq_false h)) (fun h => (Go.Am.beq_neg h)) (Go.Am.and_neg h58))
       have e59 := e51.trans (Go.Am.bif_f h58)
       refine AW.kp [2, 5, 6] [8, 20, 52] ⟨[(2, .ref 8 1 0), (5, .ref 20 1 0), (6, .arr 52 1)], [(8, .box 1 [.nilsl, .nilsl]), (20, .box 1 [.data (.slice (.int .i64)) ((Graph.Rows ((anyGraph (newReader code)).1)) : List Int), .data (.slice (.named 0)) ((Graph.Edges ((anyGraph (newReader code)).1)) : List Edge)]), (52, .arr 1 (.int .i64) (costs : List Int))]⟩ ?_
       refine AW.exit ?_
       refine AW.meet costs (by kernel_rfl) ⟨?_, e59⟩
       show True
       trivial
     ·
      intro h60
      have h60q : ¬ (((mask : Nat) : Int) < ((List.length costs : Nat) : Int)) := (of_decide_eq_false h60)
      have e61 := e48.trans (Go.Am.bif_f h60)
      refine AW.reg hC  false [(45, false)] [2, 4, 5, 6, 8, 49] [8, 20, 40, 52]
       ⟨[(2, .ref 8 1 0), (4, .ref 40 1 0), (5, .ref 20 1 0), (6, .arr 52 1), (8, .int .i64 ((mask : Nat) : Int)), (49, .bool false)], [(8, .box 1 [.nilsl, .nilsl]), (20, .box 1 [.data (.slice (.int .i64)) ((Graph.Rows ((anyGraph (newReader code)).1)) : List Int), .data (.slice (.named 0)) ((Graph.Edges ((anyGraph (newReader code)).1)) : List Edge)]), (40, .box 1 [.data (.slice (.int .u8)) ((Rdr.b ((anyGraph (newReader code)).2)) : List Int), .int .i64 r1]), (52, .arr 1 (.int .i64) (costs : List Int))]⟩
       [((decide (((mask : Nat) : Int) < ((List.length costs : Nat) : Int))) = false), ((decide (((mask : Nat) : Int) < ((List.length costs : Nat) : Int))) = false), ((decide (((mask : Nat) : Int) < ((List.length costs : Nat) : Int))) = false), ((decide (((mask : Nat) : Int) < ((List.length costs : Nat) : Int))) = false)] (by kernel_rfl) ?_ ?_
      ·
       refine ⟨?_, ?_, ?_, ?_, trivial⟩
       ·
        assumption
       ·
        assumption
       ·
        assumption
       ·
        assumption
      refine AW.cond (b := false) (by kernel_rfl) (fun h => by cases h) (fun _ => ?_)
      refine AW.kp [2, 5, 6] [8, 20, 52] ⟨[(2, .ref 8 1 0), (5, .ref 20 1 0), (6, .arr 52 1)], [(8, .box 1 [.nilsl, .nilsl]), (20, .box 1 [.data (.slice (.int .i64)) ((Graph.Rows ((anyGraph (newReader code)).1)) : List Int), .data (.slice (.named 0)) ((Graph.Edges ((anyGraph (newReader code)).1)) : List Edge)]), (52, .arr 1 (.int .i64) (costs : List Int))]⟩ ?_
      refine AW.exit ?_
      refine AW.meet costs (by kernel_rfl) ⟨?_, e61⟩
      show True
      trivial
   ·
    intro costs hR
    obtain ⟨hJ0, e62⟩ := hR
    replace hJ0 : True := hJ0
    have e63 := e10.trans (Go.Am.then_eq e62)
    refine AW.seq (AW.r1 hC [2, 3] [8, 52] ⟨[(2, .ref 8 1 0), (3, .arr 52 1)], [(8, .box 1 [.data (.slice (.int .i64)) ((Graph.Rows ((anyGraph (newReader code)).1)) : List Int), .data (.slice (.named 0)) ((Graph.Edges ((anyGraph (newReader code)).1)) : List Edge)]), (52, .arr 1 (.int .i64) (costs : List Int))]⟩ ?_)
    exact AW.ret (AW.retE (β := Graph × (List Int)) (fun v => [⟨(.named 1), v.1⟩, ⟨(.slice (.int .i64)), v.2⟩]) (fun v => []) (v := (((anyGraph (newReader code)).1), costs)) e63 (by kernel_rfl) rfl rfl)
  ·
   intro h64
   have h64q : (pick (Rdr.b ((anyGraph (newReader code)).2)) (Rdr.p ((anyGraph (newReader code)).2)) 4) ≠ 1 := (Go.Am.beq_neg h64)
   have e65 := e8.trans (Go.Am.bif_f h64)
   refine AW.kp [2, 5, 6] [8, 20, 52] ⟨[(2, .ref 8 1 0), (5, .ref 20 1 0), (6, .arr 52 1)], [(8, .box 1 [.nilsl, .nilsl]), (20, .box 1 [.data (.slice (.int .i64)) ((Graph.Rows ((anyGraph (newReader code)).1)) : List Int), .data (.slice (.named 0)) ((Graph.Edges ((anyGraph (newReader code)).1)) : List Edge)]), (52, .arr 1 (.int .i64) ((([] : List Int) ++ (BestCosts ((anyGraph (newReader code)).1))) : List Int))]⟩ ?_
   refine AW.skip (AW.seq (AW.r1 hC [2, 3] [8, 52] ⟨[(2, .ref 8 1 0), (3, .arr 52 1)], [(8, .box 1 [.data (.slice (.int .i64)) ((Graph.Rows ((anyGraph (newReader code)).1)) : List Int), .data (.slice (.named 0)) ((Graph.Edges ((anyGraph (newReader code)).1)) : List Edge)]), (52, .arr 1 (.int .i64) ((([] : List Int) ++ (BestCosts ((anyGraph (newReader code)).1))) : List Int))]⟩ ?_))
   exact AW.ret (AW.retE (β := Graph × (List Int)) (fun v => [⟨(.named 1), v.1⟩, ⟨(.slice (.int .i64)), v.2⟩]) (fun v => []) (v := (((anyGraph (newReader code)).1), (([] : List Int) ++ (BestCosts ((anyGraph (newReader code)).1))))) e65 (by kernel_rfl) rfl rfl)

end
end Go.Proofs.Ytpoohhjlpepmfaa
