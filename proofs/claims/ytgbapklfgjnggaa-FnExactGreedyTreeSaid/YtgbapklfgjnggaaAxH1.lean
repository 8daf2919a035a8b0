/-
  A part of the proof of this claim (AxH1): what functions of the program compute, and plain facts of that. No conditions.
-/
import Derived.Test.YtgbapklfgjnggaaAxT2
import Derived.Test.YtgbapklfgjnggaaAxG2
set_option linter.all false
namespace Go.Proofs.Ytgbapklfgjnggaa
open Go Go.Am
noncomputable section

def iGreedyTreeD_l0 (g : Graph) : Nat → Nat → (List JoinTree) → (List Int) → (List JoinTree) × (List Int)
 | 0, v21, trees, masks => (trees, masks)
 | k + 1, v21, trees, masks => (bif (decide (((v21 : Nat) : Int) < ((List.length (Graph.Rows g) : Nat) : Int))) then (iGreedyTreeD_l0 g k (v21 + 1) (trees ++ ([(JoinTree.mk ((v21 : Nat) : Int) ([] : List JoinTree))] : List JoinTree)) (masks ++ ([((1 : Int) * 2 ^ v21)] : List Int))) else (trees, masks))

def iGreedyTreeD_l3 (g : Graph) (masks1 : List Int) (v40 : Nat) : Nat → Nat → Nat → Int → Nat → Nat × Nat × Int
 | 0, first1, second1, least1, j => (first1, second1, least1)
 | k + 1, first1, second1, least1, j => (bif (decide (((j : Nat) : Int) < ((List.length masks1 : Nat) : Int))) then (bif (bif (least1 == (-1)) then true else (decide ((gSize g (bits .or .i64 (List.getD masks1 v40 0) (List.getD masks1 j 0))) < least1))) then (iGreedyTreeD_l3 g masks1 v40 k v40 j (gSize g (bits .or .i64 (List.getD masks1 v40 0) (List.getD masks1 j 0))) (j + 1)) else (iGreedyTreeD_l3 g masks1 v40 k first1 second1 least1 (j + 1))) else (first1, second1, least1))

def iGreedyTreeD_l2 (g : Graph) (masks1 : List Int) : Nat → Nat → Nat → Int → Nat → Nat × Nat × Int
 | 0, first, second, least, v40 => (first, second, least)
 | k + 1, first, second, least, v40 => (bif (decide (((v40 : Nat) : Int) < ((List.length masks1 : Nat) : Int))) then (Go.Am.andThen (iGreedyTreeD_l3 g masks1 v40 ((List.length masks1) - (v40 + 1) + 1) first second least (v40 + 1)) (fun z => (fun (first1 : Nat) (second1 : Nat) (least1 : Int) => (iGreedyTreeD_l2 g masks1 k first1 second1 least1 (v40 + 1))) z.1 z.2.1 z.2.2)) else (first, second, least))

def iGreedyTreeD_l1 (g : Graph) : Nat → Int → (List JoinTree) → (List Int) → Int × (List JoinTree)
 | 0, cost1, trees1, masks1 => (cost1, trees1)
 | k + 1, cost1, trees1, masks1 => (bif (decide (1 < ((List.length trees1 : Nat) : Int))) then (Go.Am.andThen (iGreedyTreeD_l2 g masks1 ((List.length masks1) - 0 + 1) 0 0 (-1) 0) (fun z => (fun (first : Nat) (second : Nat) (least : Int) => (iGreedyTreeD_l1 g k (cost1 + least) (List.take second (List.set trees1 first (JoinTree.mk 0 ([(List.getD trees1 first JoinTree.zero), (List.getD trees1 second JoinTree.zero)] : List JoinTree))) ++ List.drop (second + 1) (List.set trees1 first (JoinTree.mk 0 ([(List.getD trees1 first JoinTree.zero), (List.getD trees1 second JoinTree.zero)] : List JoinTree)))) (List.take second (List.set masks1 first (bits .or .i64 (List.getD masks1 first 0) (List.getD masks1 second 0))) ++ List.drop (second + 1) (List.set masks1 first (bits .or .i64 (List.getD masks1 first 0) (List.getD masks1 second 0)))))) z.1 z.2.1 z.2.2)) else (cost1, trees1))

def iGreedyTreeD (g : Graph) : JoinTree × Int := (bif (!(ValidGraph g)) then ((JoinTree.mk 0 ([] : List JoinTree)), (-1)) else (Go.Am.andThen (iGreedyTreeD_l0 g ((List.length (Graph.Rows g)) - 0 + 1) 0 ([] : List JoinTree) ([] : List Int)) (fun z => (fun (trees : List JoinTree) (masks : List Int) => (Go.Am.andThen (iGreedyTreeD_l1 g (List.length trees + 1) 0 trees masks) (fun z => (fun (cost1 : Int) (trees1 : List JoinTree) => ((JoinTree.mk (JoinTree.Leaf (List.getD trees1 0 JoinTree.zero)) (JoinTree.Kids (List.getD trees1 0 JoinTree.zero))), cost1)) z.1 z.2))) z.1 z.2)))

def iGreedyTreeD_sp : FnSpec := mkSpec [.val (.named 1)] [.deep (.named 3), .val (.int .i64)] (fun (g : Graph) => True) (fun (g : Graph) => [⟨(.named 3), ((iGreedyTreeD g).1)⟩, ⟨(.int .i64), ((iGreedyTreeD g).2)⟩])

theorem iGreedyTreeD_ok : FnOK Try.prog 47 iGreedyTreeD_sp := by
 have hC : CtxOK Try.prog { (mkCtx tyL [(52, ValidGraph_sp), (54, gSize_sp)]) with deep := true } := CtxOK.deepen (CtxOK.cons ValidGraph_ok (CtxOK.cons gSize_ok (CtxOK.nil tyOK))); have hM : Try.prog.follows .mixedOrders = true := Try.checked.mixed; refine FnOK.of_body Try.func47 (by kernel_rfl) rfl (C := { (mkCtx tyL [(52, ValidGraph_sp), (54, gSize_sp)]) with deep := true }) hC.ty (by kernel_rfl) ?_; intro (g : Graph) hwf hpre E; have hpre : True := hpre; have hw_g : Wf ⟨(.named 1), (g : Graph)⟩ := hwf _ (List.Mem.head _); have hl_g_Rows : ((List.length (Graph.Rows g) : Nat) : Int) ≤ 9223372036854775807 := (hw_g.field (tv := ⟨(.slice (.int .i64)), Graph.Rows g⟩) (List.Mem.head _)).len; have hl_g_Edges : ((List.length (Graph.Edges g) : Nat) : Int) ≤ 9223372036854775807 := (hw_g.field (tv := ⟨(.slice (.named 0)), Graph.Edges g⟩) (List.Mem.tail _ (List.Mem.head _))).len; have e0 : iGreedyTreeD g = iGreedyTreeD g := rfl; refine AW.seq (AW.r1 hC [1, 2] [4, 8] ⟨[(1, .ref 4 1 0), (2, .ref 8 1 0)], [(4, .box 1 [.data (.slice (.int .i64)) ((Graph.Rows g) : List Int), .data (.slice (.named 0)) ((Graph.Edges g) : List Edge)]), (8, .box 1 [.int .i64 0, .nilsl])]⟩ ?_); refine AW.seq (AW.seq (AW.r0U hC [1, 2, 16] [4, 8] [(16, .bool (!(ValidGraph g)))] [] [(True)] ?_ ?_))
 ·
  refine ⟨?_, trivial⟩
  · trivial
 refine AW.cdE e0 ?_ ?_
 · intro h1q e2; refine AW.seq (AW.r1U hC [2, 3] [8] [(3, .int .i64 (-1))] [] ?_); exact AW.ret (AW.retE (β := JoinTree × Int) (fun v => [⟨(.named 3), v.1⟩, ⟨(.int .i64), v.2⟩]) (fun v => []) (v := ((JoinTree.mk 0 ([] : List JoinTree)), (-1))) e2 (by kernel_rfl) rfl rfl)
 ·
  intro h3q e4; refine AW.kpU [1, 2] [4, 8] [] [] ?_; refine AW.skip (AW.seq ?_); have hV := ValidGraph_iff.1 h3q; have hV5 := hV.n5; have hV1 := hV.n1; refine AW.r1U hC [1, 2, 4] [4, 8] [(4, .nilsl)] [] ?_; refine AW.seq (AW.r1U hC [1, 2, 4, 5] [4, 8] [(5, .nilsl)] [] ?_); refine AW.seq (AW.seq (AW.r1U hC [1, 2, 4, 5, 20, 21] [4, 8] [(20, .int .i64 ((List.length (Graph.Rows g) : Nat) : Int)), (21, .int .i64 0)] [] ?_)); refine AW.adoptT 4 18 (.named 3) (by kernel_rfl) (by kernel_rfl) ?_; refine AW.adopt 5 22 (.int .i64) (by kernel_rfl) (by kernel_rfl) ?_; refine AW.kp [1, 2, 4, 5, 20, 21] [4, 8, 18, 22] ⟨[(1, .ref 4 1 0), (2, .ref 8 1 0), (4, .tr 18 1), (5, .arr 22 1), (20, .int .i64 ((List.length (Graph.Rows g) : Nat) : Int)), (21, .int .i64 0)], [(4, .box 1 [.data (.slice (.int .i64)) ((Graph.Rows g) : List Int), .data (.slice (.named 0)) ((Graph.Edges g) : List Edge)]), (8, .box 1 [.int .i64 0, .nilsl]), (18, .tree 1 (.named 3) (([] : List JoinTree) : List JoinTree)), (22, .arr 1 (.int .i64) (([] : List Int) : List Int))]⟩ ?_; refine AW.lpB (ζ := (List JoinTree) × (List Int)) (fun x => ⟨[(1, .ref 4 1 0), (2, .ref 8 1 0), (4, .tr 18 1), (5, .arr 22 1)], [(4, .box 1 [.data (.slice (.int .i64)) ((Graph.Rows g) : List Int), .data (.slice (.named 0)) ((Graph.Edges g) : List Edge)]), (8, .box 1 [.int .i64 0, .nilsl]), (18, .tree 1 (.named 3) (x.1 : List JoinTree)), (22, .arr 1 (.int .i64) (x.2 : List Int))]⟩) (fun x => List.length x.1 = List.length (Graph.Rows g) ∧ List.length x.2 = List.length (Graph.Rows g)) (fun x => x) (α := Nat × (List JoinTree) × (List Int)) (fun x => ⟨[(1, .ref 4 1 0), (2, .ref 8 1 0), (4, .tr 18 1), (5, .arr 22 1), (20, .int .i64 ((List.length (Graph.Rows g) : Nat) : Int)), (21, .int .i64 ((x.1 : Nat) : Int))], [(4, .box 1 [.data (.slice (.int .i64)) ((Graph.Rows g) : List Int), .data (.slice (.named 0)) ((Graph.Edges g) : List Edge)]), (8, .box 1 [.int .i64 0, .nilsl]), (18, .tree 1 (.named 3) (x.2.1 : List JoinTree)), (22, .arr 1 (.int .i64) (x.2.2 : List Int))]⟩) (fun x => List.length x.2.1 = x.1 ∧ List.length x.2.2 = x.1 ∧ x.1 ≤ List.length (Graph.Rows g)) (fun x => (List.length (Graph.Rows g)) - x.1) (fun k x => iGreedyTreeD_l0 g k x.1 x.2.1 x.2.2) (0, ([] : List JoinTree), ([] : List Int)) (by kernel_rfl) ?_ ?_ ?_
  · refine ⟨?_, ?_⟩ <;> first | omega | simp
  ·
   intro x k19q hI0 hk17 e18; obtain ⟨v21, trees, masks⟩ := x; dsimp only at e18; replace hI0 : List.length trees = v21 ∧ List.length masks = v21 ∧ v21 ≤ List.length (Graph.Rows g) := hI0; refine AW.seq (AW.r1U hC [1, 2, 4, 5, 20, 21, 22] [4, 8, 18, 22] [(22, .bool (decide (((v21 : Nat) : Int) < ((List.length (Graph.Rows g) : Nat) : Int))))] [] ?_); refine AW.seq (AW.cdE e18 ?_ ?_)
   ·
    intro h20q e21; refine AW.kpU [1, 2, 4, 5, 20, 21] [4, 8, 18, 22] [] [] ?_; refine AW.skip (AW.seq (AW.block (AW.seq (AW.r1U hC [1, 2, 4, 5, 6, 20, 21] [4, 8, 18, 22] [(6, .int .i64 ((v21 : Nat) : Int))] [] ?_)))); refine AW.seq (AW.r0U hC [1, 2, 4, 5, 6, 20, 21] [4, 8, 18, 22] [] [(18, .tree 1 (.named 3) ((trees ++ ([(JoinTree.mk ((v21 : Nat) : Int) ([] : List JoinTree))] : List JoinTree)) : List JoinTree))] [(((List.length trees : Nat) : Int) + ((List.length ([(JoinTree.mk ((v21 : Nat) : Int) ([] : List JoinTree))] : List JoinTree) : Nat) : Int) ≤ 4294967296)] ?_ ?_)
    ·
     refine ⟨?_, trivial⟩
     · simp only [List.length_append, List.length_cons, List.length_nil]; omega
    refine AW.r0U hC [1, 2, 4, 5, 20, 21] [4, 8, 18, 22] [] [(22, .arr 1 (.int .i64) ((masks ++ ([((1 : Int) * 2 ^ v21)] : List Int)) : List Int))] [(0 ≤ ((v21 : Nat) : Int) ∧ ((v21 : Nat) : Int) ≤ 64), (-9223372036854775808 ≤ ((1 : Int) * 2 ^ v21) ∧ ((1 : Int) * 2 ^ v21) ≤ 9223372036854775807), (((List.length masks : Nat) : Int) + ((List.length ([((1 : Int) * 2 ^ v21)] : List Int) : Nat) : Int) ≤ 4294967296)] ?_ ?_
    ·
     refine ⟨?_, ?_, ?_, trivial⟩
     · omega
     · have := pow2 (n := v21) (by omega); omega
     · simp only [List.length_append, List.length_cons, List.length_nil]; omega
    refine AW.r0U hC [1, 2, 4, 5, 20, 21] [4, 8, 18, 22] [(21, .int .i64 ((v21 + 1 : Nat) : Int))] [] [(-9223372036854775808 ≤ ((v21 + 1 : Nat) : Int) ∧ ((v21 + 1 : Nat) : Int) ≤ 9223372036854775807)] ?_ ?_
    ·
     refine ⟨?_, trivial⟩
     · omega
    refine AW.bk (v21 + 1, (trees ++ ([(JoinTree.mk ((v21 : Nat) : Int) ([] : List JoinTree))] : List JoinTree)), (masks ++ ([((1 : Int) * 2 ^ v21)] : List Int))) e21 hk17 ?_ ?_
    · refine ⟨?_, ?_⟩ <;> first | omega | (simp only [lens] at *; omega)
    · omega
   · intro h22q e23; refine AW.kpU [1, 2, 4, 5] [4, 8, 18, 22] [] [] ?_; refine AW.exit ?_; refine AW.meet (trees, masks) (by kernel_rfl) ⟨?_, e23⟩; dsimp only; omega
  ·
   intro x hJ0 e24; obtain ⟨trees, masks⟩ := x; replace hJ0 : List.length trees = List.length (Graph.Rows g) ∧ List.length masks = List.length (Graph.Rows g) := hJ0; have e25 := e4.trans (Go.Am.then_eq e24); dsimp only at e25; refine AW.seq (AW.r1U hC [1, 2, 4, 5, 7] [4, 8, 18, 22] [(7, .int .i64 0)] [] ?_); refine AW.seq (AW.lpB (ζ := Int × (List JoinTree)) (fun x => ⟨[(2, .ref 8 1 0), (4, .tr 18 1), (7, .int .i64 x.1)], [(8, .box 1 [.int .i64 0, .nilsl]), (18, .tree 1 (.named 3) (x.2 : List JoinTree))]⟩) (fun x => (1 ≤ List.length x.2 ∧ List.length x.2 ≤ 5) ∧ ((List.length x.2 : Nat) : Int) - 5 ≤ x.1 ∧ x.1 ≤ 1000000000000000 * (5 - ((List.length x.2 : Nat) : Int))) (fun x => x) (α := Int × (List JoinTree) × (List Int)) (fun x => ⟨[(1, .ref 4 1 0), (2, .ref 8 1 0), (4, .tr 18 1), (5, .arr 22 1), (7, .int .i64 x.1)], [(4, .box 1 [.data (.slice (.int .i64)) ((Graph.Rows g) : List Int), .data (.slice (.named 0)) ((Graph.Edges g) : List Edge)]), (8, .box 1 [.int .i64 0, .nilsl]), (18, .tree 1 (.named 3) (x.2.1 : List JoinTree)), (22, .arr 1 (.int .i64) (x.2.2 : List Int))]⟩) (fun x => (List.length x.2.2 = List.length x.2.1 ∧ 1 ≤ List.length x.2.1 ∧ List.length x.2.1 ≤ 5) ∧ ((List.length x.2.1 : Nat) : Int) - 5 ≤ x.1 ∧ x.1 ≤ 1000000000000000 * (5 - ((List.length x.2.1 : Nat) : Int))) (fun x => List.length x.2.1) (fun k x => iGreedyTreeD_l1 g k x.1 x.2.1 x.2.2) (0, trees, masks) (by kernel_rfl) ?_ ?_ ?_)
   · dsimp only; omega
   ·
    intro x k416q hI1 hk414 e415; obtain ⟨cost1, trees1, masks1⟩ := x; dsimp only at e415; replace hI1 : (List.length masks1 = List.length trees1 ∧ 1 ≤ List.length trees1 ∧ List.length trees1 ≤ 5) ∧ ((List.length trees1 : Nat) : Int) - 5 ≤ cost1 ∧ cost1 ≤ 1000000000000000 * (5 - ((List.length trees1 : Nat) : Int)) := hI1; refine AW.seq (AW.seq (AW.r1U hC [1, 2, 4, 5, 7, 37] [4, 8, 18, 22] [(37, .bool (decide (1 < ((List.length trees1 : Nat) : Int))))] [] ?_)); refine AW.cdE e415 ?_ ?_
    ·
     intro h417q e418; refine AW.kpU [1, 2, 4, 5, 7] [4, 8, 18, 22] [] [] ?_; refine AW.skip (AW.block (AW.seq (AW.r1U hC [1, 2, 4, 5, 7, 8, 9, 10] [4, 8, 18, 22] [(8, .int .i64 0), (9, .int .i64 0), (10, .int .i64 (-1))] [] ?_))); refine AW.seq (AW.seq (AW.r1U hC [1, 2, 4, 5, 7, 8, 9, 10, 39, 40] [4, 8, 18, 22] [(39, .int .i64 ((List.length masks1 : Nat) : Int)), (40, .int .i64 0)] [] ?_)); refine AW.lpB (ζ := Nat × Nat × Int) (fun x => ⟨[(1, .ref 4 1 0), (2, .ref 8 1 0), (4, .tr 18 1), (5, .arr 22 1), (7, .int .i64 cost1), (8, .int .i64 ((x.1 : Nat) : Int)), (9, .int .i64 ((x.2.1 : Nat) : Int)), (10, .int .i64 x.2.2)], [(4, .box 1 [.data (.slice (.int .i64)) ((Graph.Rows g) : List Int), .data (.slice (.named 0)) ((Graph.Edges g) : List Edge)]), (8, .box 1 [.int .i64 0, .nilsl]), (18, .tree 1 (.named 3) (trees1 : List JoinTree)), (22, .arr 1 (.int .i64) (masks1 : List Int))]⟩) (fun x => ((x.1 < List.length masks1 ∧ x.2.1 < List.length masks1) ∧ -1 ≤ x.2.2 ∧ x.2.2 ≤ 1000000000000000) ∧ x.1 < x.2.1) (fun x => x) (α := Nat × Nat × Int × Nat) (fun x => ⟨[(1, .ref 4 1 0), (2, .ref 8 1 0), (4, .tr 18 1), (5, .arr 22 1), (7, .int .i64 cost1), (8, .int .i64 ((x.1 : Nat) : Int)), (9, .int .i64 ((x.2.1 : Nat) : Int)), (10, .int .i64 x.2.2.1), (39, .int .i64 ((List.length masks1 : Nat) : Int)), (40, .int .i64 ((x.2.2.2 : Nat) : Int))], [(4, .box 1 [.data (.slice (.int .i64)) ((Graph.Rows g) : List Int), .data (.slice (.named 0)) ((Graph.Edges g) : List Edge)]), (8, .box 1 [.int .i64 0, .nilsl]), (18, .tree 1 (.named 3) (trees1 : List JoinTree)), (22, .arr 1 (.int .i64) (masks1 : List Int))]⟩) (fun x => ((x.1 < List.length masks1 ∧ x.2.1 < List.length masks1) ∧ -1 ≤ x.2.2.1 ∧ x.2.2.1 ≤ 1000000000000000) ∧ ((x.2.2.1 = -1 ∧ x.2.2.2 = 0) ∨ x.1 < x.2.1)) (fun x => (List.length masks1) - x.2.2.2) (fun k x => iGreedyTreeD_l2 g masks1 k x.1 x.2.1 x.2.2.1 x.2.2.2) (0, 0, (-1), 0) (by kernel_rfl) ?_ ?_ ?_
     · refine ⟨?_, ?_⟩ <;> first | omega | simp
     ·
      intro x k421q hI2 hk419 e420; (obtain ⟨first, second, least, v40⟩ := x); dsimp only at e420; (replace hI2 : ((first < List.length masks1 ∧ second < List.length masks1) ∧ -1 ≤ least ∧ least ≤ 1000000000000000) ∧ ((least = -1 ∧ v40 = 0) ∨ first < second) := hI2); refine AW.seq (AW.r1U hC [1, 2, 4, 5, 7, 8, 9, 10, 39, 40, 41] [4, 8, 18, 22] [(41, .bool (decide (((v40 : Nat) : Int) < ((List.length masks1 : Nat) : Int))))] [] ?_); refine AW.seq (AW.cdE e420 ?_ ?_)
      ·
       intro h422q e423; refine AW.kpU [1, 2, 4, 5, 7, 8, 9, 10, 39, 40] [4, 8, 18, 22] [] [] ?_; refine AW.skip (AW.seq (AW.block (AW.seq (AW.r1U hC [1, 2, 4, 5, 7, 8, 9, 10, 11, 39, 40] [4, 8, 18, 22] [(11, .int .i64 ((v40 : Nat) : Int))] [] ?_)))); refine AW.seq (AW.r0U hC [1, 2, 4, 5, 7, 8, 9, 10, 11, 12, 39, 40] [4, 8, 18, 22] [(12, .int .i64 ((v40 + 1 : Nat) : Int))] [] [(-9223372036854775808 ≤ ((v40 + 1 : Nat) : Int) ∧ ((v40 + 1 : Nat) : Int) ≤ 9223372036854775807)] ?_ ?_)
       ·
        refine ⟨?_, trivial⟩
        · omega
       refine AW.lpB (ζ := Nat × Nat × Int) (fun x => ⟨[(1, .ref 4 1 0), (2, .ref 8 1 0), (4, .tr 18 1), (5, .arr 22 1), (7, .int .i64 cost1), (8, .int .i64 ((x.1 : Nat) : Int)), (9, .int .i64 ((x.2.1 : Nat) : Int)), (10, .int .i64 x.2.2), (39, .int .i64 ((List.length masks1 : Nat) : Int)), (40, .int .i64 ((v40 : Nat) : Int))], [(4, .box 1 [.data (.slice (.int .i64)) ((Graph.Rows g) : List Int), .data (.slice (.named 0)) ((Graph.Edges g) : List Edge)]), (8, .box 1 [.int .i64 0, .nilsl]), (18, .tree 1 (.named 3) (trees1 : List JoinTree)), (22, .arr 1 (.int .i64) (masks1 : List Int))]⟩) (fun x => ((x.1 < List.length masks1 ∧ x.2.1 < List.length masks1) ∧ -1 ≤ x.2.2 ∧ x.2.2 ≤ 1000000000000000) ∧ x.1 < x.2.1) (fun x => x) (α := Nat × Nat × Int × Nat) (fun x => ⟨[(1, .ref 4 1 0), (2, .ref 8 1 0), (4, .tr 18 1), (5, .arr 22 1), (7, .int .i64 cost1), (8, .int .i64 ((x.1 : Nat) : Int)), (9, .int .i64 ((x.2.1 : Nat) : Int)), (10, .int .i64 x.2.2.1), (11, .int .i64 ((v40 : Nat) : Int)), (12, .int .i64 ((x.2.2.2 : Nat) : Int)), (39, .int .i64 ((List.length masks1 : Nat) : Int)), (40, .int .i64 ((v40 : Nat) : Int))], [(4, .box 1 [.data (.slice (.int .i64)) ((Graph.Rows g) : List Int), .data (.slice (.named 0)) ((Graph.Edges g) : List Edge)]), (8, .box 1 [.int .i64 0, .nilsl]), (18, .tree 1 (.named 3) (trees1 : List JoinTree)), (22, .arr 1 (.int .i64) (masks1 : List Int))]⟩) (fun x => ((x.1 < List.length masks1 ∧ x.2.1 < List.length masks1) ∧ -1 ≤ x.2.2.1 ∧ x.2.2.1 ≤ 1000000000000000) ∧ v40 < x.2.2.2 ∧ ((x.2.2.1 = -1 ∧ v40 = 0 ∧ x.2.2.2 = v40 + 1) ∨ x.1 < x.2.1)) (fun x => (List.length masks1) - x.2.2.2) (fun k x => iGreedyTreeD_l3 g masks1 v40 k x.1 x.2.1 x.2.2.1 x.2.2.2) (first, second, least, v40 + 1) (by kernel_rfl) ?_ ?_ ?_
       · refine ⟨?_, ?_⟩ <;> first | omega | simp
       ·
        intro x k426q hI3 hk424 e425; obtain ⟨first1, second1, least1, j⟩ := x; dsimp only at e425; replace hI3 : ((first1 < List.length masks1 ∧ second1 < List.length masks1) ∧ -1 ≤ least1 ∧ least1 ≤ 1000000000000000) ∧ v40 < j ∧ ((least1 = -1 ∧ v40 = 0 ∧ j = v40 + 1) ∨ first1 < second1) := hI3; refine AW.seq (AW.seq (AW.r1U hC [1, 2, 4, 5, 7, 8, 9, 10, 11, 12, 39, 40, 48] [4, 8, 18, 22] [(48, .bool (decide (((j : Nat) : Int) < ((List.length masks1 : Nat) : Int))))] [] ?_)); refine AW.cdE e425 ?_ ?_
        ·
         intro h427q e428; refine AW.kpU [1, 2, 4, 5, 7, 8, 9, 10, 11, 12, 39, 40] [4, 8, 18, 22] [] [] ?_; refine AW.skip (AW.seq (AW.block (AW.seq (AW.d0U hC hM [1, 2, 4, 5, 7, 8, 9, 10, 11, 12, 13, 39, 40] [4, 8, 18, 22] [(13, .int .i64 (gSize g (bits .or .i64 (List.getD masks1 v40 0) (List.getD masks1 j 0))))] [] [(0 ≤ ((v40 : Nat) : Int) ∧ ((v40 : Nat) : Int) < ((List.length masks1 : Nat) : Int)), (0 ≤ ((j : Nat) : Int) ∧ ((j : Nat) : Int) < ((List.length masks1 : Nat) : Int)), (VG g ∧ True)] ?_ ?_))))
         ·
          refine ⟨?_, ?_, ?_, trivial⟩
          · omega
          · omega
          · exact ⟨hV, trivial⟩
         refine AW.seq (AW.r0U hC [1, 2, 4, 5, 7, 8, 9, 10, 11, 12, 13, 39, 40, 67] [4, 8, 18, 22] [(67, .bool (bif (least1 == (-1)) then true else (decide ((gSize g (bits .or .i64 (List.getD masks1 v40 0) (List.getD masks1 j 0))) < least1))))] [] [(((least1 == (-1)) = false) → (((least1 == (-1)) = false))), (((least1 == (-1)) = false) → (((least1 == (-1)) = false))), (((least1 == (-1)) = false) → (((least1 == (-1)) = false)))] ?_ ?_)
         ·
          refine ⟨?_, ?_, ?_, trivial⟩
          · intro g429; assumption
          · intro g430; assumption
          · intro g431; assumption
         refine AW.cdE e428 ?_ ?_
         ·
          intro h432q e433; refine AW.r1U hC [1, 2, 4, 5, 7, 8, 9, 10, 11, 12, 39, 40] [4, 8, 18, 22] [(8, .int .i64 ((v40 : Nat) : Int)), (9, .int .i64 ((j : Nat) : Int)), (10, .int .i64 (gSize g (bits .or .i64 (List.getD masks1 v40 0) (List.getD masks1 j 0))))] [] ?_; refine AW.r0U hC [1, 2, 4, 5, 7, 8, 9, 10, 11, 12, 39, 40] [4, 8, 18, 22] [(12, .int .i64 ((j + 1 : Nat) : Int))] [] [(-9223372036854775808 ≤ ((j + 1 : Nat) : Int) ∧ ((j + 1 : Nat) : Int) ≤ 9223372036854775807)] ?_ ?_
          ·
           refine ⟨?_, trivial⟩
           · omega
          refine AW.bk (v40, j, (gSize g (bits .or .i64 (List.getD masks1 v40 0) (List.getD masks1 j 0))), j + 1) e433 hk424 ?_ ?_
          · dsimp only; have hs := gSize_b hV (bits .or .i64 (List.getD masks1 v40 0) (List.getD masks1 j 0)); omega
          · simp only [lens]; omega
         ·
          intro h434q e435; refine AW.kpU [1, 2, 4, 5, 7, 8, 9, 10, 11, 12, 39, 40] [4, 8, 18, 22] [] [] ?_; refine AW.skip (AW.r0U hC [1, 2, 4, 5, 7, 8, 9, 10, 11, 12, 39, 40] [4, 8, 18, 22] [(12, .int .i64 ((j + 1 : Nat) : Int))] [] [(-9223372036854775808 ≤ ((j + 1 : Nat) : Int) ∧ ((j + 1 : Nat) : Int) ≤ 9223372036854775807)] ?_ ?_)
          ·
           refine ⟨?_, trivial⟩
           · omega
          refine AW.bk (first1, second1, least1, j + 1) e435 hk424 ?_ ?_
          · dsimp only; omega
          · simp only [lens]; omega
        · intro h436q e437; refine AW.kpU [1, 2, 4, 5, 7, 8, 9, 10, 39, 40] [4, 8, 18, 22] [] [] ?_; refine AW.exit ?_; refine AW.meet (first1, second1, least1) (by kernel_rfl) ⟨?_, e437⟩; dsimp only; omega
       ·
        intro x hJ3 e438; obtain ⟨first1, second1, least1⟩ := x; replace hJ3 : ((first1 < List.length masks1 ∧ second1 < List.length masks1) ∧ -1 ≤ least1 ∧ least1 ≤ 1000000000000000) ∧ first1 < second1 := hJ3; have e439 := e423.trans (Go.Am.then_eq e438); dsimp only at e439; refine AW.r0U hC [1, 2, 4, 5, 7, 8, 9, 10, 39, 40] [4, 8, 18, 22] [(40, .int .i64 ((v40 + 1 : Nat) : Int))] [] [(-9223372036854775808 ≤ ((v40 + 1 : Nat) : Int) ∧ ((v40 + 1 : Nat) : Int) ≤ 9223372036854775807)] ?_ ?_
        ·
         refine ⟨?_, trivial⟩
         · omega
        refine AW.bk (first1, second1, least1, v40 + 1) e439 hk419 ?_ ?_
        · refine ⟨?_, ?_⟩ <;> first | omega | (simp only [lens] at *; omega)
        · simp only [lens]; omega
      · intro h440q e441; refine AW.kpU [1, 2, 4, 5, 7, 8, 9, 10] [4, 8, 18, 22] [] [] ?_; refine AW.exit ?_; (refine AW.meet (first, second, least) (by kernel_rfl) ⟨?_, e441⟩); dsimp only; omega
     ·
      intro x hJ2 e442; (obtain ⟨first, second, least⟩ := x); (replace hJ2 : ((first < List.length masks1 ∧ second < List.length masks1) ∧ -1 ≤ least ∧ least ≤ 1000000000000000) ∧ first < second := hJ2); have e443 := e418.trans (Go.Am.then_eq e442); dsimp only at e443; refine AW.seq (AW.r0U hC [1, 2, 4, 5, 7, 8, 9] [4, 8, 18, 22] [(7, .int .i64 (cost1 + least))] [] [(-9223372036854775808 ≤ (cost1 + least) ∧ (cost1 + least) ≤ 9223372036854775807)] ?_ ?_)
      ·
       refine ⟨?_, trivial⟩
       · omega
      refine AW.seq (AW.holeS 18 (ep := 1) (t := (.named 3)) (xs := (trees1 : List JoinTree)) (by kernel_rfl) (ne_nil_of_len (by omega)) ?_); intro fc444; (refine AW.kp [1, 2, 4, 5, 7, 8, 9] [4, 8, 18, 22] ⟨[(1, .ref 4 1 0), (2, .ref 8 1 0), (4, .tr 18 1), (5, .arr 22 1), (7, .int .i64 (cost1 + least)), (8, .int .i64 ((first : Nat) : Int)), (9, .int .i64 ((second : Nat) : Int))], [(4, .box 1 [.data (.slice (.int .i64)) ((Graph.Rows g) : List Int), .data (.slice (.named 0)) ((Graph.Edges g) : List Edge)]), (8, .box 1 [.int .i64 0, .nilsl]), (18, .hole 1 (.named 3) (trees1 : List JoinTree) [] (some fc444)), (22, .arr 1 (.int .i64) (masks1 : List Int))]⟩ ?_); refine AW.d0U hC hM [1, 2, 4, 5, 7, 8, 9] [4, 8, 18, 22] [] [(18, .hole 1 (.named 3) ((List.set trees1 first (JoinTree.mk 0 ([(List.getD trees1 first JoinTree.zero), (List.getD trees1 second JoinTree.zero)] : List JoinTree))) : List JoinTree) (List.filter (fun k => !(Nat.beq k first)) [first, second]) none)] [(0 ≤ ((first : Nat) : Int) ∧ ((first : Nat) : Int) < ((List.length trees1 : Nat) : Int)), (0 ≤ ((second : Nat) : Int) ∧ ((second : Nat) : Int) < ((List.length trees1 : Nat) : Int)), (first < List.length trees1 ∧ second < List.length trees1 ∧ first ≠ second), (fc444 first = fc444 first ∧ fc444 second = fc444 second), (0 ≤ ((first : Nat) : Int) ∧ ((first : Nat) : Int) < ((List.length trees1 : Nat) : Int))] ?_ ?_
      ·
       refine ⟨?_, ?_, ?_, ?_, ?_, trivial⟩
       · omega
       · omega
       · omega
       · exact ⟨rfl, rfl⟩
       · omega
      refine AW.seq (AW.d0U hC hM [1, 2, 4, 5, 7, 9] [4, 8, 18, 22] [] [(22, .arr 1 (.int .i64) ((List.set masks1 first (bits .or .i64 (List.getD masks1 first 0) (List.getD masks1 second 0))) : List Int))] [(0 ≤ ((first : Nat) : Int) ∧ ((first : Nat) : Int) < ((List.length masks1 : Nat) : Int)), (0 ≤ ((second : Nat) : Int) ∧ ((second : Nat) : Int) < ((List.length masks1 : Nat) : Int)), (0 ≤ ((first : Nat) : Int) ∧ ((first : Nat) : Int) < ((List.length masks1 : Nat) : Int))] ?_ ?_)
      ·
       refine ⟨?_, ?_, ?_, trivial⟩
       · omega
       · omega
       · omega
      refine AW.seq (AW.regionO [0, 1, 2, 3, 4, 5] (by rfl) ?_)
      refine AWO.runU hC false [] [0, 1, 2, 3] [4, 5] [1, 2, 5, 7, 9, 98, 99, 101] [4, 8, 18, 22]
       [(98, .tr 18 1), (99, .int .i64 ((second : Nat) : Int)), (101, .int .i64 ((second + 1 : Nat) : Int))] []
       [(-9223372036854775808 ≤ ((second + 1 : Nat) : Int) ∧ ((second + 1 : Nat) : Int) ≤ 9223372036854775807)] (by rfl) (by kernel_rfl) ?_ ?_
      ·
       refine ⟨?_, trivial⟩
       · omega
      refine AWO.deleteT (t := (.named 3)) (id := 18) (ep := 1) (xs := ((List.set trees1 first (JoinTree.mk 0 ([(List.getD trees1 first JoinTree.zero), (List.getD trees1 second JoinTree.zero)] : List JoinTree))) : List JoinTree)) (hs := List.filter (fun k => !(Nat.beq k first)) [first, second]) (o := none) (p := ((second : Nat) : Int)) (q := ((second + 1 : Nat) : Int)) del78 (by rfl) (by rfl) (by kernel_rfl) (by kernel_rfl) (by kernel_rfl) (by kernel_rfl) (by kernel_rfl) ?_ ?_ ?_
      · (show 0 ≤ ((second : Nat) : Int) ∧ ((second : Nat) : Int) < ((second + 1 : Nat) : Int) ∧ ((second + 1 : Nat) : Int) ≤ ((List.length (List.set trees1 first (JoinTree.mk 0 ([(List.getD trees1 first JoinTree.zero), (List.getD trees1 second JoinTree.zero)] : List JoinTree))) : Nat) : Int)); simp only [List.length_set]; omega
      · intro k hk; simp at hk; omega
      refine AWO.keepU [1, 2, 5, 7, 9, 102] [4, 8, 18, 22] [(102, .tr 18 1)] [(18, .tree 1 (.named 3) ((List.take second (List.set trees1 first (JoinTree.mk 0 ([(List.getD trees1 first JoinTree.zero), (List.getD trees1 second JoinTree.zero)] : List JoinTree))) ++ List.drop (second + 1) (List.set trees1 first (JoinTree.mk 0 ([(List.getD trees1 first JoinTree.zero), (List.getD trees1 second JoinTree.zero)] : List JoinTree)))) : List JoinTree))] (by kernel_rfl) ?_
      refine AWO.runU hC false [] [5] [] [1, 2, 4, 5, 7, 9] [4, 8, 18, 22]
       [(4, .tr 18 1)] []
       [] (by rfl) (by kernel_rfl) ?_ ?_
      · exact trivial
      refine AWO.nil ?_; refine AW.regionO [0, 1, 2, 3, 4, 5] (by rfl) ?_
      refine AWO.runU hC false [] [0, 1, 2, 3] [4, 5] [1, 2, 4, 7, 103, 104, 106] [4, 8, 18, 22]
       [(103, .arr 22 1), (104, .int .i64 ((second : Nat) : Int)), (106, .int .i64 ((second + 1 : Nat) : Int))] []
       [(-9223372036854775808 ≤ ((second + 1 : Nat) : Int) ∧ ((second + 1 : Nat) : Int) ≤ 9223372036854775807)] (by rfl) (by kernel_rfl) ?_ ?_
      ·
       refine ⟨?_, trivial⟩
       · omega
      refine AWO.delete (t := (.int .i64)) (id := 22) (ep := 1) (xs := ((List.set masks1 first (bits .or .i64 (List.getD masks1 first 0) (List.getD masks1 second 0))) : List Int)) (p := ((second : Nat) : Int)) (q := ((second + 1 : Nat) : Int)) del79 (by rfl) (by rfl) (by kernel_rfl) (by kernel_rfl) (by kernel_rfl) (by kernel_rfl) (by kernel_rfl) ?_ ?_
      · (show 0 ≤ ((second : Nat) : Int) ∧ ((second : Nat) : Int) < ((second + 1 : Nat) : Int) ∧ ((second + 1 : Nat) : Int) ≤ ((List.length (List.set masks1 first (bits .or .i64 (List.getD masks1 first 0) (List.getD masks1 second 0))) : Nat) : Int)); simp only [List.length_set]; omega
      refine AWO.keepU [1, 2, 4, 7, 107] [4, 8, 18, 22] [(107, .arr 22 1)] [(22, .arr 1 (.int .i64) ((List.take second (List.set masks1 first (bits .or .i64 (List.getD masks1 first 0) (List.getD masks1 second 0))) ++ List.drop (second + 1) (List.set masks1 first (bits .or .i64 (List.getD masks1 first 0) (List.getD masks1 second 0)))) : List Int))] (by kernel_rfl) ?_
      refine AWO.runU hC false [] [5] [] [1, 2, 4, 5, 7] [4, 8, 18, 22]
       [(5, .arr 22 1)] []
       [] (by rfl) (by kernel_rfl) ?_ ?_
      · exact trivial
      refine AWO.nil ?_; refine AW.bk ((cost1 + least), (List.take second (List.set trees1 first (JoinTree.mk 0 ([(List.getD trees1 first JoinTree.zero), (List.getD trees1 second JoinTree.zero)] : List JoinTree))) ++ List.drop (second + 1) (List.set trees1 first (JoinTree.mk 0 ([(List.getD trees1 first JoinTree.zero), (List.getD trees1 second JoinTree.zero)] : List JoinTree)))), (List.take second (List.set masks1 first (bits .or .i64 (List.getD masks1 first 0) (List.getD masks1 second 0))) ++ List.drop (second + 1) (List.set masks1 first (bits .or .i64 (List.getD masks1 first 0) (List.getD masks1 second 0))))) e443 hk414 ?_ ?_
      · refine ⟨?_, ?_⟩ <;> first | omega | (simp only [lens] at *; omega)
      · simp only [lens]; omega
    · intro h445q e446; refine AW.kpU [2, 4, 7] [8, 18] [] [] ?_; refine AW.exit ?_; refine AW.meet (cost1, trees1) (by kernel_rfl) ⟨?_, e446⟩; dsimp only; omega
   ·
    intro x hJ1 e447; obtain ⟨cost1, trees1⟩ := x; replace hJ1 : (1 ≤ List.length trees1 ∧ List.length trees1 ≤ 5) ∧ ((List.length trees1 : Nat) : Int) - 5 ≤ cost1 ∧ cost1 ≤ 1000000000000000 * (5 - ((List.length trees1 : Nat) : Int)) := hJ1; have e448 := e25.trans (Go.Am.then_eq e447); dsimp only at e448; refine AW.seq (AW.holeN 18 (ep := 1) (t := (.named 3)) (xs := (trees1 : List JoinTree)) (by kernel_rfl) (ne_nil_of_len (by omega)) ?_); refine AW.kp [2, 4, 7] [8, 18] ⟨[(2, .ref 8 1 0), (4, .tr 18 1), (7, .int .i64 cost1)], [(8, .box 1 [.int .i64 0, .nilsl]), (18, .hole 1 (.named 3) (trees1 : List JoinTree) [] none)]⟩ ?_; refine AW.r0U hC [2, 3] [8, 440] [(3, .int .i64 cost1)] [(8, .box 1 [.int .i64 (JoinTree.Leaf (List.getD trees1 0 JoinTree.zero)), .tr 440 1]), (440, .tree 1 (.named 3) ((JoinTree.Kids (List.getD trees1 0 JoinTree.zero)) : List JoinTree))] [(0 ≤ (0 : Int) ∧ (0 : Int) < ((List.length trees1 : Nat) : Int))] ?_ ?_
    ·
     refine ⟨?_, trivial⟩
     · omega
    exact AW.ret (AW.retE (β := JoinTree × Int) (fun v => [⟨(.named 3), v.1⟩, ⟨(.int .i64), v.2⟩]) (fun v => []) (v := ((JoinTree.mk (JoinTree.Leaf (List.getD trees1 0 JoinTree.zero)) (JoinTree.Kids (List.getD trees1 0 JoinTree.zero))), cost1)) e448 (by kernel_rfl) rfl rfl)

end
end Go.Proofs.Ytgbapklfgjnggaa
