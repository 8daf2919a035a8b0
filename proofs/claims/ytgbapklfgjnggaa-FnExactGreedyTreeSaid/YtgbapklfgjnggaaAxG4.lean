/-
  A part of the proof of this claim (AxG4): what functions of the program compute, and plain facts of that. No conditions.
-/
import Derived.Test.YtgbapklfgjnggaaAxG2
set_option linter.all false
namespace Go.Proofs.Ytgbapklfgjnggaa
open Go Go.Am
noncomputable section

def GreedyTree_l0 (g : Graph) : Nat → Nat → (List JoinTree) → (List Int) → (List JoinTree) × (List Int)
 | 0, i, trees, masks => (trees, masks)
 | k + 1, i, trees, masks => (bif (decide (((i : Nat) : Int) < ((List.length (Graph.Rows g) : Nat) : Int))) then (GreedyTree_l0 g k (i + 1) (trees ++ ([(JoinTree.mk ((i : Nat) : Int) ([] : List JoinTree))] : List JoinTree)) (masks ++ ([((1 : Int) * 2 ^ i)] : List Int))) else (trees, masks))

def GreedyTree_l3 (g : Graph) (trees1 : List JoinTree) (masks1 : List Int) (i : Nat) : Nat → Nat → Nat → Nat → Nat × Nat
 | 0, a1, b1, k1 => (a1, b1)
 | k + 1, a1, b1, k1 => (bif (decide (((k1 : Nat) : Int) < ((List.length trees1 : Nat) : Int))) then (bif (decide ((subsetSize g (bits .or .i64 (List.getD masks1 i 0) (List.getD masks1 k1 0))) < (subsetSize g (bits .or .i64 (List.getD masks1 a1 0) (List.getD masks1 b1 0))))) then (GreedyTree_l3 g trees1 masks1 i k i k1 (k1 + 1)) else (GreedyTree_l3 g trees1 masks1 i k a1 b1 (k1 + 1))) else (a1, b1))

def GreedyTree_l2 (g : Graph) (trees1 : List JoinTree) (masks1 : List Int) : Nat → Nat → Nat → Nat → Nat × Nat
 | 0, a, b, i => (a, b)
 | k + 1, a, b, i => (bif (decide (((i : Nat) : Int) < ((List.length trees1 : Nat) : Int))) then (Go.Am.andThen (GreedyTree_l3 g trees1 masks1 i ((List.length trees1) - (i + 1) + 1) a b (i + 1)) (fun z => (fun (a1 : Nat) (b1 : Nat) => (GreedyTree_l2 g trees1 masks1 k a1 b1 (i + 1))) z.1 z.2)) else (a, b))

def GreedyTree_l1 (g : Graph) : Nat → (List JoinTree) → (List Int) → (List JoinTree)
 | 0, trees1, masks1 => trees1
 | k + 1, trees1, masks1 => (bif (decide (1 < ((List.length trees1 : Nat) : Int))) then (Go.Am.andThen (GreedyTree_l2 g trees1 masks1 ((List.length trees1) - 0 + 1) 0 1 0) (fun z => (fun (a : Nat) (b : Nat) => (GreedyTree_l1 g k (List.take b (List.set trees1 a (JoinTree.mk 0 ([(List.getD trees1 a JoinTree.zero), (List.getD trees1 b JoinTree.zero)] : List JoinTree))) ++ (List.take (List.length (List.set trees1 a (JoinTree.mk 0 ([(List.getD trees1 a JoinTree.zero), (List.getD trees1 b JoinTree.zero)] : List JoinTree))) - (b + 1)) (List.drop (b + 1) (List.set trees1 a (JoinTree.mk 0 ([(List.getD trees1 a JoinTree.zero), (List.getD trees1 b JoinTree.zero)] : List JoinTree)))))) (List.take b (List.set masks1 a (bits .or .i64 (List.getD masks1 a 0) (List.getD masks1 b 0))) ++ (List.take (List.length (List.set masks1 a (bits .or .i64 (List.getD masks1 a 0) (List.getD masks1 b 0))) - (b + 1)) (List.drop (b + 1) (List.set masks1 a (bits .or .i64 (List.getD masks1 a 0) (List.getD masks1 b 0)))))))) z.1 z.2)) else trees1)

def GreedyTree (g : Graph) : JoinTree × Int := (bif (!(validGraph g)) then ((JoinTree.mk 0 ([] : List JoinTree)), (-1)) else (Go.Am.andThen (GreedyTree_l0 g ((List.length (Graph.Rows g)) - 0 + 1) 0 ([] : List JoinTree) ([] : List Int)) (fun z => (fun (trees : List JoinTree) (masks : List Int) => (Go.Am.andThen (GreedyTree_l1 g (List.length trees + 1) trees masks) (fun z => (fun (trees1 : List JoinTree) => ((JoinTree.mk (JoinTree.Leaf (List.getD trees1 0 JoinTree.zero)) (JoinTree.Kids (List.getD trees1 0 JoinTree.zero))), (treeCost g (List.getD trees1 0 JoinTree.zero)))) z))) z.1 z.2)))

def GreedyTree_sp : FnSpec := mkSpec [.val (.named 1)] [.val (.named 3), .val (.int .i64)] (fun (g : Graph) => True) (fun (g : Graph) => [⟨(.named 3), ((GreedyTree g).1)⟩, ⟨(.int .i64), ((GreedyTree g).2)⟩])

theorem GreedyTree_ok : FnOK Try.prog 46 GreedyTree_sp := by
 have hC : CtxOK Try.prog (mkCtx tyL [(55, validGraph_sp), (57, subsetSize_sp), (69, treeCost_sp)]) := CtxOK.cons validGraph_ok (CtxOK.cons subsetSize_ok (CtxOK.cons treeCost_ok (CtxOK.nil tyOK))); have hM : Try.prog.follows .mixedOrders = true := Try.checked.mixed; refine FnOK.of_body Try.func46 (by kernel_rfl) rfl (C := (mkCtx tyL [(55, validGraph_sp), (57, subsetSize_sp), (69, treeCost_sp)])) hC.ty (by kernel_rfl) ?_; intro (g : Graph) hwf hpre E; have hpre : True := hpre; have hw_g : Wf ⟨(.named 1), (g : Graph)⟩ := hwf _ (List.Mem.head _); have hl_g_Rows : ((List.length (Graph.Rows g) : Nat) : Int) ≤ 9223372036854775807 := (hw_g.field (tv := ⟨(.slice (.int .i64)), Graph.Rows g⟩) (List.Mem.head _)).len; have hl_g_Edges : ((List.length (Graph.Edges g) : Nat) : Int) ≤ 9223372036854775807 := (hw_g.field (tv := ⟨(.slice (.named 0)), Graph.Edges g⟩) (List.Mem.tail _ (List.Mem.head _))).len; have e0 : GreedyTree g = GreedyTree g := rfl; refine AW.seq (AW.r1 hC [1, 2] [4, 8] ⟨[(1, .ref 4 1 0), (2, .ref 8 1 0)], [(4, .box 1 [.data (.slice (.int .i64)) ((Graph.Rows g) : List Int), .data (.slice (.named 0)) ((Graph.Edges g) : List Edge)]), (8, .box 1 [.int .i64 0, .nilsl])]⟩ ?_); refine AW.seq (AW.seq (AW.r0U hC [1, 2, 13] [4, 8] [(13, .bool (!(validGraph g)))] [] [(True)] ?_ ?_))
 ·
  refine ⟨?_, trivial⟩
  · trivial
 refine AW.cdE e0 ?_ ?_
 · intro h1q e2; refine AW.seq (AW.r1U hC [2, 3] [8] [(3, .int .i64 (-1))] [] ?_); exact AW.ret (AW.retE (β := JoinTree × Int) (fun v => [⟨(.named 3), v.1⟩, ⟨(.int .i64), v.2⟩]) (fun v => []) (v := ((JoinTree.mk 0 ([] : List JoinTree)), (-1))) e2 (by kernel_rfl) rfl rfl)
 ·
  intro h3q e4; refine AW.kpU [1, 2] [4, 8] [] [] ?_; refine AW.skip (AW.seq ?_); have hV := validGraph_iff.1 h3q; have hV5 := hV.n5; have hV1 := hV.n1; refine AW.r1U hC [1, 2, 4] [4, 8, 60] [(4, .arr 60 1)] [(60, .arr 1 (.named 3) (([] : List JoinTree) : List JoinTree))] ?_; refine AW.seq (AW.r1U hC [1, 2, 4, 5] [4, 8, 60, 64] [(5, .arr 64 1)] [(64, .arr 1 (.int .i64) (([] : List Int) : List Int))] ?_); refine AW.seq (AW.seq (AW.r1U hC [1, 2, 4, 5, 6] [4, 8, 60, 64] [(6, .int .i64 0)] [] ?_)); refine AW.lpB (ζ := (List JoinTree) × (List Int)) (fun x => ⟨[(1, .ref 4 1 0), (2, .ref 8 1 0), (4, .arr 60 1), (5, .arr 64 1)], [(4, .box 1 [.data (.slice (.int .i64)) ((Graph.Rows g) : List Int), .data (.slice (.named 0)) ((Graph.Edges g) : List Edge)]), (8, .box 1 [.int .i64 0, .nilsl]), (60, .arr 1 (.named 3) (x.1 : List JoinTree)), (64, .arr 1 (.int .i64) (x.2 : List Int))]⟩) (fun x => FT ((List.length (Graph.Rows g) : Nat) : Int) x.1 ∧ x.2 = mks ((List.length (Graph.Rows g) : Nat) : Int) x.1 ∧ List.length x.1 = List.length (Graph.Rows g)) (fun x => x) (α := Nat × (List JoinTree) × (List Int)) (fun x => ⟨[(1, .ref 4 1 0), (2, .ref 8 1 0), (4, .arr 60 1), (5, .arr 64 1), (6, .int .i64 ((x.1 : Nat) : Int))], [(4, .box 1 [.data (.slice (.int .i64)) ((Graph.Rows g) : List Int), .data (.slice (.named 0)) ((Graph.Edges g) : List Edge)]), (8, .box 1 [.int .i64 0, .nilsl]), (60, .arr 1 (.named 3) (x.2.1 : List JoinTree)), (64, .arr 1 (.int .i64) (x.2.2 : List Int))]⟩) (fun x => (x.2.1 = lfs x.1 ∧ x.2.2 = (List.range x.1).map (fun j => (1 : Int) * 2 ^ j)) ∧ x.1 ≤ List.length (Graph.Rows g) ∧ List.length x.2.1 = x.1 ∧ List.length x.2.2 = x.1) (fun x => (List.length (Graph.Rows g)) - x.1) (fun k x => GreedyTree_l0 g k x.1 x.2.1 x.2.2) (0, ([] : List JoinTree), ([] : List Int)) (by kernel_rfl) ?_ ?_ ?_
  · exact ⟨⟨rfl, rfl⟩, Nat.zero_le _, rfl, rfl⟩
  ·
   intro x k19q hI0 hk17 e18; obtain ⟨i, trees, masks⟩ := x; dsimp only at e18; replace hI0 : (trees = lfs i ∧ masks = (List.range i).map (fun j => (1 : Int) * 2 ^ j)) ∧ i ≤ List.length (Graph.Rows g) ∧ List.length trees = i ∧ List.length masks = i := hI0; refine AW.seq (AW.seq (AW.r1U hC [1, 2, 4, 5, 6, 21] [4, 8, 60, 64] [(21, .bool (decide (((i : Nat) : Int) < ((List.length (Graph.Rows g) : Nat) : Int))))] [] ?_)); refine AW.cdE e18 ?_ ?_
   ·
    intro h20q e21; refine AW.kpU [1, 2, 4, 5, 6] [4, 8, 60, 64] [] [] ?_; refine AW.skip (AW.seq (AW.block (AW.seq (AW.r0U hC [1, 2, 4, 5, 6] [4, 8, 60, 64] [] [(60, .arr 1 (.named 3) ((trees ++ ([(JoinTree.mk ((i : Nat) : Int) ([] : List JoinTree))] : List JoinTree)) : List JoinTree))] [(((List.length trees : Nat) : Int) + ((List.length ([(JoinTree.mk ((i : Nat) : Int) ([] : List JoinTree))] : List JoinTree) : Nat) : Int) ≤ 4294967296)] ?_ ?_))))
    ·
     refine ⟨?_, trivial⟩
     · simp only [List.length_append, List.length_cons, List.length_nil, List.length_take, List.length_drop, List.length_set]; omega
    refine AW.r0U hC [1, 2, 4, 5, 6] [4, 8, 60, 64] [] [(64, .arr 1 (.int .i64) ((masks ++ ([((1 : Int) * 2 ^ i)] : List Int)) : List Int))] [(0 ≤ ((i : Nat) : Int) ∧ ((i : Nat) : Int) ≤ 64), (-9223372036854775808 ≤ ((1 : Int) * 2 ^ i) ∧ ((1 : Int) * 2 ^ i) ≤ 9223372036854775807), (((List.length masks : Nat) : Int) + ((List.length ([((1 : Int) * 2 ^ i)] : List Int) : Nat) : Int) ≤ 4294967296)] ?_ ?_
    ·
     refine ⟨?_, ?_, ?_, trivial⟩
     · omega
     · have := pow2 (n := i) (by omega); omega
     · simp only [List.length_append, List.length_cons, List.length_nil, List.length_take, List.length_drop, List.length_set]; omega
    refine AW.r0U hC [1, 2, 4, 5, 6] [4, 8, 60, 64] [(6, .int .i64 ((i + 1 : Nat) : Int))] [] [(-9223372036854775808 ≤ ((i + 1 : Nat) : Int) ∧ ((i + 1 : Nat) : Int) ≤ 9223372036854775807)] ?_ ?_
    ·
     refine ⟨?_, trivial⟩
     · omega
    refine AW.bk (i + 1, (trees ++ ([(JoinTree.mk ((i : Nat) : Int) ([] : List JoinTree))] : List JoinTree)), (masks ++ ([((1 : Int) * 2 ^ i)] : List Int))) e21 hk17 ?_ ?_
    ·
     show ((trees ++ ([(JoinTree.mk ((i : Nat) : Int) ([] : List JoinTree))] : List JoinTree)) = lfs (i + 1) ∧ (masks ++ ([((1 : Int) * 2 ^ i)] : List Int)) = (List.range (i + 1)).map (fun j => (1 : Int) * 2 ^ j)) ∧ (i + 1) ≤ List.length (Graph.Rows g) ∧ List.length (trees ++ ([(JoinTree.mk ((i : Nat) : Int) ([] : List JoinTree))] : List JoinTree)) = (i + 1) ∧ List.length (masks ++ ([((1 : Int) * 2 ^ i)] : List Int)) = (i + 1); rw [hI0.1.1, hI0.1.2, lfs_succ, pws_succ]; refine ⟨⟨rfl, rfl⟩, by omega, ?_, ?_⟩
     · rw [List.length_append, lfs_len]; rfl
     · simp
    · omega
   · intro h22q e23; refine AW.kpU [1, 2, 4, 5] [4, 8, 60, 64] [] [] ?_; refine AW.exit ?_; refine AW.meet (trees, masks) (by kernel_rfl) ⟨?_, e23⟩; obtain ⟨⟨rfl, rfl⟩, hle, -, -⟩ := hI0; (have hi : i = List.length (Graph.Rows g) := by omega); subst hi; have hf := lfs_ft hV5; exact ⟨hf.1, hf.2.symm, lfs_len _⟩
  ·
   intro x hJ0 e24; obtain ⟨trees, masks⟩ := x; replace hJ0 : FT ((List.length (Graph.Rows g) : Nat) : Int) trees ∧ masks = mks ((List.length (Graph.Rows g) : Nat) : Int) trees ∧ List.length trees = List.length (Graph.Rows g) := hJ0; have e25 := e4.trans (Go.Am.then_eq e24); dsimp only at e25; refine AW.seq (AW.lpB (ζ := (List JoinTree)) (fun x => ⟨[(1, .ref 4 1 0), (2, .ref 8 1 0), (4, .arr 60 1)], [(4, .box 1 [.data (.slice (.int .i64)) ((Graph.Rows g) : List Int), .data (.slice (.named 0)) ((Graph.Edges g) : List Edge)]), (8, .box 1 [.int .i64 0, .nilsl]), (60, .arr 1 (.named 3) (x : List JoinTree))]⟩) (fun x => FT ((List.length (Graph.Rows g) : Nat) : Int) x ∧ 1 ≤ List.length x ∧ List.length x ≤ 5) (fun x => x) (α := (List JoinTree) × (List Int)) (fun x => ⟨[(1, .ref 4 1 0), (2, .ref 8 1 0), (4, .arr 60 1), (5, .arr 64 1)], [(4, .box 1 [.data (.slice (.int .i64)) ((Graph.Rows g) : List Int), .data (.slice (.named 0)) ((Graph.Edges g) : List Edge)]), (8, .box 1 [.int .i64 0, .nilsl]), (60, .arr 1 (.named 3) (x.1 : List JoinTree)), (64, .arr 1 (.int .i64) (x.2 : List Int))]⟩) (fun x => (FT ((List.length (Graph.Rows g) : Nat) : Int) x.1 ∧ x.2 = mks ((List.length (Graph.Rows g) : Nat) : Int) x.1) ∧ 1 ≤ List.length x.1 ∧ List.length x.1 ≤ 5) (fun x => List.length x.1) (fun k x => GreedyTree_l1 g k x.1 x.2) (trees, masks) (by kernel_rfl) ?_ ?_ ?_)
   · dsimp only; exact ⟨⟨hJ0.1, hJ0.2.1⟩, by have := hJ0.2.2; omega, by have := hJ0.2.2; omega⟩
   ·
    intro x k287q hI1 hk285 e286; obtain ⟨trees1, masks1⟩ := x; dsimp only at e286; replace hI1 : (FT ((List.length (Graph.Rows g) : Nat) : Int) trees1 ∧ masks1 = mks ((List.length (Graph.Rows g) : Nat) : Int) trees1) ∧ 1 ≤ List.length trees1 ∧ List.length trees1 ≤ 5 := hI1; (have hm1 : masks1.length = trees1.length := by rw [hI1.1.2]; exact mks_len _ _); refine AW.seq (AW.seq (AW.r1U hC [1, 2, 4, 5, 36] [4, 8, 60, 64] [(36, .bool (decide (1 < ((List.length trees1 : Nat) : Int))))] [] ?_)); refine AW.cdE e286 ?_ ?_
    ·
     intro h288q e289; refine AW.kpU [1, 2, 4, 5] [4, 8, 60, 64] [] [] ?_; refine AW.skip (AW.block (AW.seq (AW.r1U hC [1, 2, 4, 5, 7] [4, 8, 60, 64] [(7, .int .i64 0)] [] ?_))); refine AW.seq (AW.r1U hC [1, 2, 4, 5, 7, 8] [4, 8, 60, 64] [(8, .int .i64 1)] [] ?_); refine AW.seq (AW.seq (AW.r1U hC [1, 2, 4, 5, 7, 8, 9] [4, 8, 60, 64] [(9, .int .i64 0)] [] ?_)); refine AW.lpB (ζ := Nat × Nat) (fun x => ⟨[(1, .ref 4 1 0), (2, .ref 8 1 0), (4, .arr 60 1), (5, .arr 64 1), (7, .int .i64 ((x.1 : Nat) : Int)), (8, .int .i64 ((x.2 : Nat) : Int))], [(4, .box 1 [.data (.slice (.int .i64)) ((Graph.Rows g) : List Int), .data (.slice (.named 0)) ((Graph.Edges g) : List Edge)]), (8, .box 1 [.int .i64 0, .nilsl]), (60, .arr 1 (.named 3) (trees1 : List JoinTree)), (64, .arr 1 (.int .i64) (masks1 : List Int))]⟩) (fun x => x.1 < x.2 ∧ x.2 < List.length trees1) (fun x => x) (α := Nat × Nat × Nat) (fun x => ⟨[(1, .ref 4 1 0), (2, .ref 8 1 0), (4, .arr 60 1), (5, .arr 64 1), (7, .int .i64 ((x.1 : Nat) : Int)), (8, .int .i64 ((x.2.1 : Nat) : Int)), (9, .int .i64 ((x.2.2 : Nat) : Int))], [(4, .box 1 [.data (.slice (.int .i64)) ((Graph.Rows g) : List Int), .data (.slice (.named 0)) ((Graph.Edges g) : List Edge)]), (8, .box 1 [.int .i64 0, .nilsl]), (60, .arr 1 (.named 3) (trees1 : List JoinTree)), (64, .arr 1 (.int .i64) (masks1 : List Int))]⟩) (fun x => x.1 < x.2.1 ∧ x.2.1 < List.length trees1) (fun x => (List.length trees1) - x.2.2) (fun k x => GreedyTree_l2 g trees1 masks1 k x.1 x.2.1 x.2.2) (0, 1, 0) (by kernel_rfl) ?_ ?_ ?_
     · refine ⟨?_, ?_⟩ <;> first | omega | simp
     ·
      intro x k292q hI2 hk290 e291; obtain ⟨a, b, i⟩ := x; dsimp only at e291; replace hI2 : a < b ∧ b < List.length trees1 := hI2; refine AW.seq (AW.seq (AW.r1U hC [1, 2, 4, 5, 7, 8, 9, 40] [4, 8, 60, 64] [(40, .bool (decide (((i : Nat) : Int) < ((List.length trees1 : Nat) : Int))))] [] ?_)); refine AW.cdE e291 ?_ ?_
      ·
       intro h293q e294; refine AW.kpU [1, 2, 4, 5, 7, 8, 9] [4, 8, 60, 64] [] [] ?_; refine AW.skip (AW.seq (AW.block (AW.seq (AW.r0U hC [1, 2, 4, 5, 7, 8, 9, 10] [4, 8, 60, 64] [(10, .int .i64 ((i + 1 : Nat) : Int))] [] [(-9223372036854775808 ≤ ((i + 1 : Nat) : Int) ∧ ((i + 1 : Nat) : Int) ≤ 9223372036854775807)] ?_ ?_))))
       ·
        refine ⟨?_, trivial⟩
        · omega
       refine AW.lpB (ζ := Nat × Nat) (fun x => ⟨[(1, .ref 4 1 0), (2, .ref 8 1 0), (4, .arr 60 1), (5, .arr 64 1), (7, .int .i64 ((x.1 : Nat) : Int)), (8, .int .i64 ((x.2 : Nat) : Int)), (9, .int .i64 ((i : Nat) : Int))], [(4, .box 1 [.data (.slice (.int .i64)) ((Graph.Rows g) : List Int), .data (.slice (.named 0)) ((Graph.Edges g) : List Edge)]), (8, .box 1 [.int .i64 0, .nilsl]), (60, .arr 1 (.named 3) (trees1 : List JoinTree)), (64, .arr 1 (.int .i64) (masks1 : List Int))]⟩) (fun x => (x.1 < x.2 ∧ x.2 < List.length trees1)) (fun x => x) (α := Nat × Nat × Nat) (fun x => ⟨[(1, .ref 4 1 0), (2, .ref 8 1 0), (4, .arr 60 1), (5, .arr 64 1), (7, .int .i64 ((x.1 : Nat) : Int)), (8, .int .i64 ((x.2.1 : Nat) : Int)), (9, .int .i64 ((i : Nat) : Int)), (10, .int .i64 ((x.2.2 : Nat) : Int))], [(4, .box 1 [.data (.slice (.int .i64)) ((Graph.Rows g) : List Int), .data (.slice (.named 0)) ((Graph.Edges g) : List Edge)]), (8, .box 1 [.int .i64 0, .nilsl]), (60, .arr 1 (.named 3) (trees1 : List JoinTree)), (64, .arr 1 (.int .i64) (masks1 : List Int))]⟩) (fun x => (x.1 < x.2.1 ∧ x.2.1 < List.length trees1) ∧ i < x.2.2) (fun x => (List.length trees1) - x.2.2) (fun k x => GreedyTree_l3 g trees1 masks1 i k x.1 x.2.1 x.2.2) (a, b, i + 1) (by kernel_rfl) ?_ ?_ ?_
       · refine ⟨?_, ?_⟩ <;> first | omega | simp
       ·
        intro x k297q hI3 hk295 e296; obtain ⟨a1, b1, k1⟩ := x; dsimp only at e296; replace hI3 : (a1 < b1 ∧ b1 < List.length trees1) ∧ i < k1 := hI3; refine AW.seq (AW.seq (AW.r1U hC [1, 2, 4, 5, 7, 8, 9, 10, 48] [4, 8, 60, 64] [(48, .bool (decide (((k1 : Nat) : Int) < ((List.length trees1 : Nat) : Int))))] [] ?_)); refine AW.cdE e296 ?_ ?_
        ·
         intro h298q e299; refine AW.kpU [1, 2, 4, 5, 7, 8, 9, 10] [4, 8, 60, 64] [] [] ?_; refine AW.skip (AW.seq (AW.block (AW.seq (AW.d0U hC hM [1, 2, 4, 5, 7, 8, 9, 10, 73] [4, 8, 60, 64] [(73, .bool (decide ((subsetSize g (bits .or .i64 (List.getD masks1 i 0) (List.getD masks1 k1 0))) < (subsetSize g (bits .or .i64 (List.getD masks1 a1 0) (List.getD masks1 b1 0))))))] [] [(0 ≤ ((i : Nat) : Int) ∧ ((i : Nat) : Int) < ((List.length masks1 : Nat) : Int)), (0 ≤ ((k1 : Nat) : Int) ∧ ((k1 : Nat) : Int) < ((List.length masks1 : Nat) : Int)), (VG g ∧ 0 ≤ (bits .or .i64 (List.getD masks1 i 0) (List.getD masks1 k1 0))), (0 ≤ ((a1 : Nat) : Int) ∧ ((a1 : Nat) : Int) < ((List.length masks1 : Nat) : Int)), (0 ≤ ((b1 : Nat) : Int) ∧ ((b1 : Nat) : Int) < ((List.length masks1 : Nat) : Int)), (VG g ∧ 0 ≤ (bits .or .i64 (List.getD masks1 a1 0) (List.getD masks1 b1 0)))] ?_ ?_))))
         ·
          refine ⟨?_, ?_, ?_, ?_, ?_, ?_, trivial⟩
          · omega
          · omega
          · refine ⟨hV, ?_⟩; rw [hI1.1.2]; exact (mks_or (by omega) _ (by omega) (by omega)).1
          · omega
          · omega
          · refine ⟨hV, ?_⟩; rw [hI1.1.2]; exact (mks_or (by omega) _ (by omega) (by omega)).1
         refine AW.cdE e299 ?_ ?_
         ·
          intro h300q e301; refine AW.seq (AW.r1U hC [1, 2, 4, 5, 7, 9, 10] [4, 8, 60, 64] [(7, .int .i64 ((i : Nat) : Int))] [] ?_); refine AW.r1U hC [1, 2, 4, 5, 7, 8, 9, 10] [4, 8, 60, 64] [(8, .int .i64 ((k1 : Nat) : Int))] [] ?_; refine AW.r0U hC [1, 2, 4, 5, 7, 8, 9, 10] [4, 8, 60, 64] [(10, .int .i64 ((k1 + 1 : Nat) : Int))] [] [(-9223372036854775808 ≤ ((k1 + 1 : Nat) : Int) ∧ ((k1 + 1 : Nat) : Int) ≤ 9223372036854775807)] ?_ ?_
          ·
           refine ⟨?_, trivial⟩
           · omega
          refine AW.bk (i, k1, k1 + 1) e301 hk295 ?_ ?_
          · refine ⟨?_, ?_⟩ <;> first | omega | (simp only [lens] at *; omega)
          · simp only [lens]; omega
         ·
          intro h302q e303; refine AW.kpU [1, 2, 4, 5, 7, 8, 9, 10] [4, 8, 60, 64] [] [] ?_; refine AW.skip (AW.r0U hC [1, 2, 4, 5, 7, 8, 9, 10] [4, 8, 60, 64] [(10, .int .i64 ((k1 + 1 : Nat) : Int))] [] [(-9223372036854775808 ≤ ((k1 + 1 : Nat) : Int) ∧ ((k1 + 1 : Nat) : Int) ≤ 9223372036854775807)] ?_ ?_)
          ·
           refine ⟨?_, trivial⟩
           · omega
          refine AW.bk (a1, b1, k1 + 1) e303 hk295 ?_ ?_
          · refine ⟨?_, ?_⟩ <;> first | omega | (simp only [lens] at *; omega)
          · simp only [lens]; omega
        · intro h304q e305; refine AW.kpU [1, 2, 4, 5, 7, 8, 9] [4, 8, 60, 64] [] [] ?_; refine AW.exit ?_; refine AW.meet (a1, b1) (by kernel_rfl) ⟨?_, e305⟩; omega
       ·
        intro x hJ3 e306; obtain ⟨a1, b1⟩ := x; replace hJ3 : (a1 < b1 ∧ b1 < List.length trees1) := hJ3; have e307 := e294.trans (Go.Am.then_eq e306); dsimp only at e307; refine AW.r0U hC [1, 2, 4, 5, 7, 8, 9] [4, 8, 60, 64] [(9, .int .i64 ((i + 1 : Nat) : Int))] [] [(-9223372036854775808 ≤ ((i + 1 : Nat) : Int) ∧ ((i + 1 : Nat) : Int) ≤ 9223372036854775807)] ?_ ?_
        ·
         refine ⟨?_, trivial⟩
         · omega
        refine AW.bk (a1, b1, i + 1) e307 hk290 ?_ ?_
        · assumption
        · simp only [lens]; omega
      · intro h308q e309; refine AW.kpU [1, 2, 4, 5, 7, 8] [4, 8, 60, 64] [] [] ?_; refine AW.exit ?_; refine AW.meet (a, b) (by kernel_rfl) ⟨?_, e309⟩; assumption
     ·
      intro x hJ2 e310; obtain ⟨a, b⟩ := x; replace hJ2 : a < b ∧ b < List.length trees1 := hJ2; have e311 := e289.trans (Go.Am.then_eq e310); dsimp only at e311; refine AW.seq (AW.d0U hC hM [1, 2, 4, 5, 7, 8] [4, 8, 60, 64] [] [(60, .arr 1 (.named 3) ((List.set trees1 a (JoinTree.mk 0 ([(List.getD trees1 a JoinTree.zero), (List.getD trees1 b JoinTree.zero)] : List JoinTree))) : List JoinTree))] [(0 ≤ ((a : Nat) : Int) ∧ ((a : Nat) : Int) < ((List.length trees1 : Nat) : Int)), (0 ≤ ((b : Nat) : Int) ∧ ((b : Nat) : Int) < ((List.length trees1 : Nat) : Int)), (0 ≤ ((a : Nat) : Int) ∧ ((a : Nat) : Int) < ((List.length trees1 : Nat) : Int))] ?_ ?_)
      ·
       refine ⟨?_, ?_, ?_, trivial⟩
       · omega
       · omega
       · omega
      refine AW.seq (AW.d0U hC hM [1, 2, 4, 5, 8] [4, 8, 60, 64] [] [(64, .arr 1 (.int .i64) ((List.set masks1 a (bits .or .i64 (List.getD masks1 a 0) (List.getD masks1 b 0))) : List Int))] [(0 ≤ ((a : Nat) : Int) ∧ ((a : Nat) : Int) < ((List.length masks1 : Nat) : Int)), (0 ≤ ((b : Nat) : Int) ∧ ((b : Nat) : Int) < ((List.length masks1 : Nat) : Int)), (0 ≤ ((a : Nat) : Int) ∧ ((a : Nat) : Int) < ((List.length masks1 : Nat) : Int))] ?_ ?_)
      ·
       refine ⟨?_, ?_, ?_, trivial⟩
       · omega
       · omega
       · omega
      refine AW.seq (AW.d0U hC hM [1, 2, 4, 5, 8] [4, 8, 60, 64] [] [(60, .arr 1 (.named 3) ((List.take b (List.set trees1 a (JoinTree.mk 0 ([(List.getD trees1 a JoinTree.zero), (List.getD trees1 b JoinTree.zero)] : List JoinTree))) ++ (List.take (List.length (List.set trees1 a (JoinTree.mk 0 ([(List.getD trees1 a JoinTree.zero), (List.getD trees1 b JoinTree.zero)] : List JoinTree))) - (b + 1)) (List.drop (b + 1) (List.set trees1 a (JoinTree.mk 0 ([(List.getD trees1 a JoinTree.zero), (List.getD trees1 b JoinTree.zero)] : List JoinTree)))))) : List JoinTree))] [(0 ≤ ((b : Nat) : Int) ∧ ((b : Nat) : Int) ≤ ((List.length (List.set trees1 a (JoinTree.mk 0 ([(List.getD trees1 a JoinTree.zero), (List.getD trees1 b JoinTree.zero)] : List JoinTree))) : Nat) : Int)), (-9223372036854775808 ≤ ((b + 1 : Nat) : Int) ∧ ((b + 1 : Nat) : Int) ≤ 9223372036854775807), (0 ≤ ((b + 1 : Nat) : Int) ∧ ((b + 1 : Nat) : Int) ≤ ((List.length (List.set trees1 a (JoinTree.mk 0 ([(List.getD trees1 a JoinTree.zero), (List.getD trees1 b JoinTree.zero)] : List JoinTree))) : Nat) : Int)), (((b : Nat) : Int) + ((List.length (List.take (List.length (List.set trees1 a (JoinTree.mk 0 ([(List.getD trees1 a JoinTree.zero), (List.getD trees1 b JoinTree.zero)] : List JoinTree))) - (b + 1)) (List.drop (b + 1) (List.set trees1 a (JoinTree.mk 0 ([(List.getD trees1 a JoinTree.zero), (List.getD trees1 b JoinTree.zero)] : List JoinTree))))) : Nat) : Int) ≤ 4294967296)] ?_ ?_)
      ·
       refine ⟨?_, ?_, ?_, ?_, trivial⟩
       · (simp only [lens] at *; omega)
       · omega
       · (simp only [lens] at *; omega)
       · simp only [List.length_append, List.length_cons, List.length_nil, List.length_take, List.length_drop, List.length_set]; omega
      refine AW.d0U hC hM [1, 2, 4, 5] [4, 8, 60, 64] [] [(64, .arr 1 (.int .i64) ((List.take b (List.set masks1 a (bits .or .i64 (List.getD masks1 a 0) (List.getD masks1 b 0))) ++ (List.take (List.length (List.set masks1 a (bits .or .i64 (List.getD masks1 a 0) (List.getD masks1 b 0))) - (b + 1)) (List.drop (b + 1) (List.set masks1 a (bits .or .i64 (List.getD masks1 a 0) (List.getD masks1 b 0)))))) : List Int))] [(0 ≤ ((b : Nat) : Int) ∧ ((b : Nat) : Int) ≤ ((List.length (List.set masks1 a (bits .or .i64 (List.getD masks1 a 0) (List.getD masks1 b 0))) : Nat) : Int)), (-9223372036854775808 ≤ ((b + 1 : Nat) : Int) ∧ ((b + 1 : Nat) : Int) ≤ 9223372036854775807), (0 ≤ ((b + 1 : Nat) : Int) ∧ ((b + 1 : Nat) : Int) ≤ ((List.length (List.set masks1 a (bits .or .i64 (List.getD masks1 a 0) (List.getD masks1 b 0))) : Nat) : Int)), (((b : Nat) : Int) + ((List.length (List.take (List.length (List.set masks1 a (bits .or .i64 (List.getD masks1 a 0) (List.getD masks1 b 0))) - (b + 1)) (List.drop (b + 1) (List.set masks1 a (bits .or .i64 (List.getD masks1 a 0) (List.getD masks1 b 0))))) : Nat) : Int) ≤ 4294967296)] ?_ ?_
      ·
       refine ⟨?_, ?_, ?_, ?_, trivial⟩
       · (simp only [lens] at *; omega)
       · omega
       · (simp only [lens] at *; omega)
       · simp only [List.length_append, List.length_cons, List.length_nil, List.length_take, List.length_drop, List.length_set]; omega
      refine AW.bk ((List.take b (List.set trees1 a (JoinTree.mk 0 ([(List.getD trees1 a JoinTree.zero), (List.getD trees1 b JoinTree.zero)] : List JoinTree))) ++ (List.take (List.length (List.set trees1 a (JoinTree.mk 0 ([(List.getD trees1 a JoinTree.zero), (List.getD trees1 b JoinTree.zero)] : List JoinTree))) - (b + 1)) (List.drop (b + 1) (List.set trees1 a (JoinTree.mk 0 ([(List.getD trees1 a JoinTree.zero), (List.getD trees1 b JoinTree.zero)] : List JoinTree)))))), (List.take b (List.set masks1 a (bits .or .i64 (List.getD masks1 a 0) (List.getD masks1 b 0))) ++ (List.take (List.length (List.set masks1 a (bits .or .i64 (List.getD masks1 a 0) (List.getD masks1 b 0))) - (b + 1)) (List.drop (b + 1) (List.set masks1 a (bits .or .i64 (List.getD masks1 a 0) (List.getD masks1 b 0))))))) e311 hk285 ?_ ?_
      · dsimp only; rw [jn_take, jn_take]; have hj := FT.jn (n := ((List.length (Graph.Rows g) : Nat) : Int)) (by omega) hI1.1.1 hJ2.1 hJ2.2; refine ⟨⟨hj.1, by rw [hI1.1.2]; exact hj.2.symm⟩, ?_⟩; have hl := jn_len (ts := trees1) (a := a) hJ2.2 (two (List.getD trees1 a JoinTree.zero) (List.getD trees1 b JoinTree.zero)); unfold jn two at hl; omega
      · dsimp only; rw [jn_take]; have hl := jn_len (ts := trees1) (a := a) hJ2.2 (two (List.getD trees1 a JoinTree.zero) (List.getD trees1 b JoinTree.zero)); unfold jn two at hl; omega
    · intro h312q e313; refine AW.kpU [1, 2, 4] [4, 8, 60] [] [] ?_; refine AW.exit ?_; refine AW.meet trees1 (by kernel_rfl) ⟨?_, e313⟩; exact ⟨hI1.1.1, hI1.2.1, hI1.2.2⟩
   ·
    intro trees1 hJ1 e314; replace hJ1 : FT ((List.length (Graph.Rows g) : Nat) : Int) trees1 ∧ 1 ≤ List.length trees1 ∧ List.length trees1 ≤ 5 := hJ1; have e315 := e25.trans (Go.Am.then_eq e314); refine AW.seq (AW.d0U hC hM [2, 3] [8] [(3, .int .i64 (treeCost g (List.getD trees1 0 JoinTree.zero)))] [(8, .box 1 [.int .i64 (JoinTree.Leaf (List.getD trees1 0 JoinTree.zero)), .data (.slice (.named 3)) ((JoinTree.Kids (List.getD trees1 0 JoinTree.zero)) : List JoinTree)])] [(0 ≤ (0 : Int) ∧ (0 : Int) < ((List.length trees1 : Nat) : Int)), (0 ≤ (0 : Int) ∧ (0 : Int) < ((List.length trees1 : Nat) : Int)), (VG g ∧ treeMask (List.getD trees1 0 JoinTree.zero) (List.length g.Rows : Int) ≠ 0)] ?_ ?_)
    ·
     refine ⟨?_, ?_, ?_, trivial⟩
     · omega
     · omega
     · exact ⟨hV, hJ1.1.ne _ (getD_mem trees1 0 JoinTree.zero (by omega))⟩
    exact AW.ret (AW.retE (β := JoinTree × Int) (fun v => [⟨(.named 3), v.1⟩, ⟨(.int .i64), v.2⟩]) (fun v => []) (v := ((JoinTree.mk (JoinTree.Leaf (List.getD trees1 0 JoinTree.zero)) (JoinTree.Kids (List.getD trees1 0 JoinTree.zero))), (treeCost g (List.getD trees1 0 JoinTree.zero)))) e315 (by kernel_rfl) rfl rfl)

end
end Go.Proofs.Ytgbapklfgjnggaa
