/-
  A part of the proof of this claim (AxH1): what functions of the program compute, and plain facts of that. No conditions.
-/
import Derived.Test.YtgbapklfgjnggaaAxT2
import Derived.Test.YtgbapklfgjnggaaAxG2
set_option linter.all false
namespace Go.Proofs.Ytgbapklfgjnggaa
open Go Go.Am
open Go.Am.AW (seq r1U ret kpU cdE r0U r1 meet block bk exit lpB kp d0U)
open List (length getD set take drop)
noncomputable section

def iGreedyTreeD_l0 (g : Graph) : Nat → Nat → (List JoinTree) → (List Int) → (List JoinTree) × (List Int)
 | 0, v21, trees, masks => (trees, masks)
 | k + 1, v21, trees, masks => (bif (decide ((v21 : Int) < (length (Graph.Rows g) : Int))) then (iGreedyTreeD_l0 g k (v21 + 1) (trees ++ ([(JoinTree.mk (v21 : Int) ([] : List JoinTree))] : List JoinTree)) (masks ++ ([((1 : Int) * 2 ^ v21)] : List Int))) else (trees, masks))

def iGreedyTreeD_l3 (g : Graph) (masks1 : List Int) (v40 : Nat) : Nat → Nat → Nat → Int → Nat → Nat × Nat × Int
 | 0, first1, second1, least1, j => (first1, second1, least1)
 | k + 1, first1, second1, least1, j => (bif (decide ((j : Int) < (length masks1 : Int))) then (bif (bif (least1 == (-1)) then true else (decide ((gSize g (bits .or .i64 (getD masks1 v40 0) (getD masks1 j 0))) < least1))) then (iGreedyTreeD_l3 g masks1 v40 k v40 j (gSize g (bits .or .i64 (getD masks1 v40 0) (getD masks1 j 0))) (j + 1)) else (iGreedyTreeD_l3 g masks1 v40 k first1 second1 least1 (j + 1))) else (first1, second1, least1))

def iGreedyTreeD_l2 (g : Graph) (masks1 : List Int) : Nat → Nat → Nat → Int → Nat → Nat × Nat × Int
 | 0, first, second, least, v40 => (first, second, least)
 | k + 1, first, second, least, v40 => (bif (decide ((v40 : Int) < (length masks1 : Int))) then (andThen (iGreedyTreeD_l3 g masks1 v40 ((length masks1) - (v40 + 1) + 1) first second least (v40 + 1)) (fun z => (fun (first1 : Nat) (second1 : Nat) (least1 : Int) => (iGreedyTreeD_l2 g masks1 k first1 second1 least1 (v40 + 1))) z.1 z.2.1 z.2.2)) else (first, second, least))

def iGreedyTreeD_l1 (g : Graph) : Nat → Int → (List JoinTree) → (List Int) → Int × (List JoinTree)
 | 0, cost1, trees1, masks1 => (cost1, trees1)
 | k + 1, cost1, trees1, masks1 => (bif (decide (1 < (length trees1 : Int))) then (andThen (iGreedyTreeD_l2 g masks1 ((length masks1) - 0 + 1) 0 0 (-1) 0) (fun z => (fun (first : Nat) (second : Nat) (least : Int) => (iGreedyTreeD_l1 g k (cost1 + least) (take second (set trees1 first (JoinTree.mk 0 ([(getD trees1 first JoinTree.zero), (getD trees1 second JoinTree.zero)] : List JoinTree))) ++ drop (second + 1) (set trees1 first (JoinTree.mk 0 ([(getD trees1 first JoinTree.zero), (getD trees1 second JoinTree.zero)] : List JoinTree)))) (take second (set masks1 first (bits .or .i64 (getD masks1 first 0) (getD masks1 second 0))) ++ drop (second + 1) (set masks1 first (bits .or .i64 (getD masks1 first 0) (getD masks1 second 0)))))) z.1 z.2.1 z.2.2)) else (cost1, trees1))

def iGreedyTreeD (g : Graph) : JoinTree × Int := (bif (!(ValidGraph g)) then ((JoinTree.mk 0 ([] : List JoinTree)), (-1)) else (andThen (iGreedyTreeD_l0 g ((length (Graph.Rows g)) - 0 + 1) 0 ([] : List JoinTree) ([] : List Int)) (fun z => (fun (trees : List JoinTree) (masks : List Int) => (andThen (iGreedyTreeD_l1 g (length trees + 1) 0 trees masks) (fun z => (fun (cost1 : Int) (trees1 : List JoinTree) => ((JoinTree.mk (JoinTree.Leaf (getD trees1 0 JoinTree.zero)) (JoinTree.Kids (getD trees1 0 JoinTree.zero))), cost1)) z.1 z.2))) z.1 z.2)))

def iGreedyTreeD_sp : FnSpec := mkSpec [.val (.named 1)] [.deep (.named 3), .val (.int .i64)] (fun (g : Graph) => True) (fun (g : Graph) => [⟨(.named 3), ((iGreedyTreeD g).1)⟩, ⟨(.int .i64), ((iGreedyTreeD g).2)⟩])

theorem iGreedyTreeD_ok : FnOK Try.prog 47 iGreedyTreeD_sp := by
 have hC : CtxOK Try.prog { (mkCtx tyL [(52, ValidGraph_sp), (54, gSize_sp)]) with deep := true } := CtxOK.deepen (CtxOK.cons ValidGraph_ok (CtxOK.cons gSize_ok (CtxOK.nil tyOK))); have hM : Try.prog.follows .mixedOrders = true := Try.checked.mixed; refine FnOK.of_body Try.func47 (by kernel_rfl) rfl (C := { (mkCtx tyL [(52, ValidGraph_sp), (54, gSize_sp)]) with deep := true }) hC.ty (by kernel_rfl) ?_; intro (g : Graph) hwf hpre E; have hpre : True := hpre; have e0 : iGreedyTreeD g = iGreedyTreeD g := rfl; refine seq (r1 hC [1, 2] [4, 8] ⟨[(1, .ref 4 1 0), (2, .ref 8 1 0)], [(4, .box 1 [.data (.slice (.int .i64)) ((Graph.Rows g) : List Int), .data (.slice (.named 0)) ((Graph.Edges g) : List Edge)]), (8, .box 1 [.int .i64 0, .nilsl])]⟩ ?_); refine seq (seq (r0U hC [1, 2, 16] [4, 8] [(16, .bool (!(ValidGraph g)))] [] [(True)] ?_ ?_))
 ·
  exact ⟨trivial, trivial⟩
 refine cdE e0 ?_ ?_
 · intro h1q e2; refine seq (r1U hC [2, 3] [8] [(3, .int .i64 (-1))] [] ?_); exact ret (AW.retE (β := JoinTree × Int) (fun v => [⟨(.named 3), v.1⟩, ⟨(.int .i64), v.2⟩]) (fun v => []) (v := ((JoinTree.mk 0 ([] : List JoinTree)), (-1))) e2 (by kernel_rfl) rfl rfl)
 ·
  intro h3q e4; refine kpU [1, 2] [4, 8] [] [] ?_; refine AW.skip (seq ?_); have hV := ValidGraph_iff.1 h3q; have hV5 := hV.n5; have hV1 := hV.n1; refine r1U hC [1, 2, 4] [4, 8] [(4, .nilsl)] [] ?_; refine seq (r1U hC [1, 2, 4, 5] [4, 8] [(5, .nilsl)] [] ?_); refine seq (seq (r1U hC [1, 2, 4, 5, 20, 21] [4, 8] [(20, .int .i64 (length (Graph.Rows g) : Int)), (21, .int .i64 0)] [] ?_)); refine AW.adoptT 4 18 (.named 3) (by kernel_rfl) (by kernel_rfl) ?_; refine AW.adopt 5 22 (.int .i64) (by kernel_rfl) (by kernel_rfl) ?_; refine kp [1, 2, 4, 5, 20, 21] [4, 8, 18, 22] ⟨[(1, .ref 4 1 0), (2, .ref 8 1 0), (4, .tr 18 1), (5, .arr 22 1), (20, .int .i64 (length (Graph.Rows g) : Int)), (21, .int .i64 0)], [(4, .box 1 [.data (.slice (.int .i64)) ((Graph.Rows g) : List Int), .data (.slice (.named 0)) ((Graph.Edges g) : List Edge)]), (8, .box 1 [.int .i64 0, .nilsl]), (18, .tree 1 (.named 3) (([] : List JoinTree) : List JoinTree)), (22, .arr 1 (.int .i64) (([] : List Int) : List Int))]⟩ ?_; refine lpB (ζ := (List JoinTree) × (List Int)) (fun x => ⟨[(1, .ref 4 1 0), (2, .ref 8 1 0), (4, .tr 18 1), (5, .arr 22 1)], [(4, .box 1 [.data (.slice (.int .i64)) ((Graph.Rows g) : List Int), .data (.slice (.named 0)) ((Graph.Edges g) : List Edge)]), (8, .box 1 [.int .i64 0, .nilsl]), (18, .tree 1 (.named 3) (x.1 : List JoinTree)), (22, .arr 1 (.int .i64) (x.2 : List Int))]⟩) (fun x => length x.1 = length (Graph.Rows g) ∧ length x.2 = length (Graph.Rows g)) (fun x => x) (α := Nat × (List JoinTree) × (List Int)) (fun x => ⟨[(1, .ref 4 1 0), (2, .ref 8 1 0), (4, .tr 18 1), (5, .arr 22 1), (20, .int .i64 (length (Graph.Rows g) : Int)), (21, .int .i64 ((x.1 : Nat) : Int))], [(4, .box 1 [.data (.slice (.int .i64)) ((Graph.Rows g) : List Int), .data (.slice (.named 0)) ((Graph.Edges g) : List Edge)]), (8, .box 1 [.int .i64 0, .nilsl]), (18, .tree 1 (.named 3) (x.2.1 : List JoinTree)), (22, .arr 1 (.int .i64) (x.2.2 : List Int))]⟩) (fun x => length x.2.1 = x.1 ∧ length x.2.2 = x.1 ∧ x.1 ≤ length (Graph.Rows g)) (fun x => (length (Graph.Rows g)) - x.1) (fun k x => iGreedyTreeD_l0 g k x.1 x.2.1 x.2.2) (0, ([] : List JoinTree), ([] : List Int)) (by kernel_rfl) ?_ ?_ ?_
  · refine ⟨?_, ?_⟩ <;> first | omega | (simp; done)
  ·
   intro x k19q hI0 hk17 e18; obtain ⟨v21, trees, masks⟩ := x; dsimp only at e18; replace hI0 : length trees = v21 ∧ length masks = v21 ∧ v21 ≤ length (Graph.Rows g) := hI0; refine seq (r1U hC [1, 2, 4, 5, 20, 21, 22] [4, 8, 18, 22] [(22, .bool (decide ((v21 : Int) < (length (Graph.Rows g) : Int))))] [] ?_); refine seq (cdE e18 ?_ ?_)
   ·
    intro h20q e21; refine kpU [1, 2, 4, 5, 20, 21] [4, 8, 18, 22] [] [] ?_; refine AW.skip (seq (block (seq (r1U hC [1, 2, 4, 5, 6, 20, 21] [4, 8, 18, 22] [(6, .int .i64 (v21 : Int))] [] ?_)))); refine seq (r0U hC [1, 2, 4, 5, 6, 20, 21] [4, 8, 18, 22] [] [(18, .tree 1 (.named 3) ((trees ++ ([(JoinTree.mk (v21 : Int) ([] : List JoinTree))] : List JoinTree)) : List JoinTree))] [((length trees : Int) + ((length ([(JoinTree.mk (v21 : Int) ([] : List JoinTree))] : List JoinTree) : Nat) : Int) ≤ 4294967296)] ?_ ?_)
    ·
     exact ⟨(by simp only [List.length_append, List.length_cons, List.length_nil]; omega), trivial⟩
    refine r0U hC [1, 2, 4, 5, 20, 21] [4, 8, 18, 22] [] [(22, .arr 1 (.int .i64) ((masks ++ ([((1 : Int) * 2 ^ v21)] : List Int)) : List Int))] [(0 ≤ (v21 : Int) ∧ (v21 : Int) ≤ 64), (-9223372036854775808 ≤ ((1 : Int) * 2 ^ v21) ∧ ((1 : Int) * 2 ^ v21) ≤ 9223372036854775807), ((length masks : Int) + (length ([((1 : Int) * 2 ^ v21)] : List Int) : Int) ≤ 4294967296)] ?_ ?_
    ·
     exact ⟨(by omega), (by have := pow2 (n := v21) (by omega); omega), (by simp only [List.length_append, List.length_cons, List.length_nil]; omega), trivial⟩
    refine r0U hC [1, 2, 4, 5, 20, 21] [4, 8, 18, 22] [(21, .int .i64 ((v21 + 1 : Nat) : Int))] [] [(-9223372036854775808 ≤ ((v21 + 1 : Nat) : Int) ∧ ((v21 + 1 : Nat) : Int) ≤ 9223372036854775807)] ?_ ?_
    ·
     exact ⟨(by omega), trivial⟩
    refine bk (v21 + 1, (trees ++ ([(JoinTree.mk (v21 : Int) ([] : List JoinTree))] : List JoinTree)), (masks ++ ([((1 : Int) * 2 ^ v21)] : List Int))) e21 hk17 ?_ ?_
    · refine ⟨?_, ?_⟩ <;> first | omega | (simp only [lens] at *; omega)
    · omega
   · intro h22q e23; refine kpU [1, 2, 4, 5] [4, 8, 18, 22] [] [] ?_; refine exit ?_; refine meet (trees, masks) (by kernel_rfl) ⟨?_, e23⟩; dsimp only; omega
  ·
   intro x hJ0 e24; obtain ⟨trees, masks⟩ := x; replace hJ0 : length trees = length (Graph.Rows g) ∧ length masks = length (Graph.Rows g) := hJ0; have e25 := e4.trans (then_eq e24); dsimp only at e25; refine seq (r1U hC [1, 2, 4, 5, 7] [4, 8, 18, 22] [(7, .int .i64 0)] [] ?_); refine seq (lpB (ζ := Int × (List JoinTree)) (fun x => ⟨[(2, .ref 8 1 0), (4, .tr 18 1), (7, .int .i64 x.1)], [(8, .box 1 [.int .i64 0, .nilsl]), (18, .tree 1 (.named 3) (x.2 : List JoinTree))]⟩) (fun x => (1 ≤ length x.2 ∧ length x.2 ≤ 5) ∧ (length x.2 : Int) - 5 ≤ x.1 ∧ x.1 ≤ 1000000000000000 * (5 - (length x.2 : Int))) (fun x => x) (α := Int × (List JoinTree) × (List Int)) (fun x => ⟨[(1, .ref 4 1 0), (2, .ref 8 1 0), (4, .tr 18 1), (5, .arr 22 1), (7, .int .i64 x.1)], [(4, .box 1 [.data (.slice (.int .i64)) ((Graph.Rows g) : List Int), .data (.slice (.named 0)) ((Graph.Edges g) : List Edge)]), (8, .box 1 [.int .i64 0, .nilsl]), (18, .tree 1 (.named 3) (x.2.1 : List JoinTree)), (22, .arr 1 (.int .i64) (x.2.2 : List Int))]⟩) (fun x => (length x.2.2 = length x.2.1 ∧ 1 ≤ length x.2.1 ∧ length x.2.1 ≤ 5) ∧ (length x.2.1 : Int) - 5 ≤ x.1 ∧ x.1 ≤ 1000000000000000 * (5 - (length x.2.1 : Int))) (fun x => length x.2.1) (fun k x => iGreedyTreeD_l1 g k x.1 x.2.1 x.2.2) (0, trees, masks) (by kernel_rfl) ?_ ?_ ?_)
   · dsimp only; omega
   ·
    intro x k416q hI1 hk414 e415; obtain ⟨cost1, trees1, masks1⟩ := x; dsimp only at e415; replace hI1 : (length masks1 = length trees1 ∧ 1 ≤ length trees1 ∧ length trees1 ≤ 5) ∧ (length trees1 : Int) - 5 ≤ cost1 ∧ cost1 ≤ 1000000000000000 * (5 - (length trees1 : Int)) := hI1; refine seq (seq (r1U hC [1, 2, 4, 5, 7, 37] [4, 8, 18, 22] [(37, .bool (decide (1 < (length trees1 : Int))))] [] ?_)); refine cdE e415 ?_ ?_
    ·
     intro h417q e418; refine kpU [1, 2, 4, 5, 7] [4, 8, 18, 22] [] [] ?_; refine AW.skip (block (seq (r1U hC [1, 2, 4, 5, 7, 8, 9, 10] [4, 8, 18, 22] [(8, .int .i64 0), (9, .int .i64 0), (10, .int .i64 (-1))] [] ?_))); refine seq (seq (r1U hC [1, 2, 4, 5, 7, 8, 9, 10, 39, 40] [4, 8, 18, 22] [(39, .int .i64 (length masks1 : Int)), (40, .int .i64 0)] [] ?_)); refine lpB (ζ := Nat × Nat × Int) (fun x => ⟨[(1, .ref 4 1 0), (2, .ref 8 1 0), (4, .tr 18 1), (5, .arr 22 1), (7, .int .i64 cost1), (8, .int .i64 ((x.1 : Nat) : Int)), (9, .int .i64 ((x.2.1 : Nat) : Int)), (10, .int .i64 x.2.2)], [(4, .box 1 [.data (.slice (.int .i64)) ((Graph.Rows g) : List Int), .data (.slice (.named 0)) ((Graph.Edges g) : List Edge)]), (8, .box 1 [.int .i64 0, .nilsl]), (18, .tree 1 (.named 3) (trees1 : List JoinTree)), (22, .arr 1 (.int .i64) (masks1 : List Int))]⟩) (fun x => ((x.1 < length masks1 ∧ x.2.1 < length masks1) ∧ -1 ≤ x.2.2 ∧ x.2.2 ≤ 1000000000000000) ∧ x.1 < x.2.1) (fun x => x) (α := Nat × Nat × Int × Nat) (fun x => ⟨[(1, .ref 4 1 0), (2, .ref 8 1 0), (4, .tr 18 1), (5, .arr 22 1), (7, .int .i64 cost1), (8, .int .i64 ((x.1 : Nat) : Int)), (9, .int .i64 ((x.2.1 : Nat) : Int)), (10, .int .i64 x.2.2.1), (39, .int .i64 (length masks1 : Int)), (40, .int .i64 ((x.2.2.2 : Nat) : Int))], [(4, .box 1 [.data (.slice (.int .i64)) ((Graph.Rows g) : List Int), .data (.slice (.named 0)) ((Graph.Edges g) : List Edge)]), (8, .box 1 [.int .i64 0, .nilsl]), (18, .tree 1 (.named 3) (trees1 : List JoinTree)), (22, .arr 1 (.int .i64) (masks1 : List Int))]⟩) (fun x => ((x.1 < length masks1 ∧ x.2.1 < length masks1) ∧ -1 ≤ x.2.2.1 ∧ x.2.2.1 ≤ 1000000000000000) ∧ ((x.2.2.1 = -1 ∧ x.2.2.2 = 0) ∨ x.1 < x.2.1)) (fun x => (length masks1) - x.2.2.2) (fun k x => iGreedyTreeD_l2 g masks1 k x.1 x.2.1 x.2.2.1 x.2.2.2) (0, 0, (-1), 0) (by kernel_rfl) ?_ ?_ ?_
     · dsimp only; (refine ⟨?_, ?_⟩ <;> first | omega | (simp; done))
     ·
      intro x k421q hI2 hk419 e420; (obtain ⟨first, second, least, v40⟩ := x); dsimp only at e420; (replace hI2 : ((first < length masks1 ∧ second < length masks1) ∧ -1 ≤ least ∧ least ≤ 1000000000000000) ∧ ((least = -1 ∧ v40 = 0) ∨ first < second) := hI2); refine seq (r1U hC [1, 2, 4, 5, 7, 8, 9, 10, 39, 40, 41] [4, 8, 18, 22] [(41, .bool (decide ((v40 : Int) < (length masks1 : Int))))] [] ?_); refine seq (cdE e420 ?_ ?_)
      ·
       intro h422q e423; refine kpU [1, 2, 4, 5, 7, 8, 9, 10, 39, 40] [4, 8, 18, 22] [] [] ?_; refine AW.skip (seq (block (seq (r1U hC [1, 2, 4, 5, 7, 8, 9, 10, 11, 39, 40] [4, 8, 18, 22] [(11, .int .i64 (v40 : Int))] [] ?_)))); refine seq (r0U hC [1, 2, 4, 5, 7, 8, 9, 10, 11, 12, 39, 40] [4, 8, 18, 22] [(12, .int .i64 ((v40 + 1 : Nat) : Int))] [] [(-9223372036854775808 ≤ ((v40 + 1 : Nat) : Int) ∧ ((v40 + 1 : Nat) : Int) ≤ 9223372036854775807)] ?_ ?_)
       ·
        exact ⟨(by omega), trivial⟩
       refine lpB (ζ := Nat × Nat × Int) (fun x => ⟨[(1, .ref 4 1 0), (2, .ref 8 1 0), (4, .tr 18 1), (5, .arr 22 1), (7, .int .i64 cost1), (8, .int .i64 ((x.1 : Nat) : Int)), (9, .int .i64 ((x.2.1 : Nat) : Int)), (10, .int .i64 x.2.2), (39, .int .i64 (length masks1 : Int)), (40, .int .i64 (v40 : Int))], [(4, .box 1 [.data (.slice (.int .i64)) ((Graph.Rows g) : List Int), .data (.slice (.named 0)) ((Graph.Edges g) : List Edge)]), (8, .box 1 [.int .i64 0, .nilsl]), (18, .tree 1 (.named 3) (trees1 : List JoinTree)), (22, .arr 1 (.int .i64) (masks1 : List Int))]⟩) (fun x => ((x.1 < length masks1 ∧ x.2.1 < length masks1) ∧ -1 ≤ x.2.2 ∧ x.2.2 ≤ 1000000000000000) ∧ x.1 < x.2.1) (fun x => x) (α := Nat × Nat × Int × Nat) (fun x => ⟨[(1, .ref 4 1 0), (2, .ref 8 1 0), (4, .tr 18 1), (5, .arr 22 1), (7, .int .i64 cost1), (8, .int .i64 ((x.1 : Nat) : Int)), (9, .int .i64 ((x.2.1 : Nat) : Int)), (10, .int .i64 x.2.2.1), (11, .int .i64 (v40 : Int)), (12, .int .i64 ((x.2.2.2 : Nat) : Int)), (39, .int .i64 (length masks1 : Int)), (40, .int .i64 (v40 : Int))], [(4, .box 1 [.data (.slice (.int .i64)) ((Graph.Rows g) : List Int), .data (.slice (.named 0)) ((Graph.Edges g) : List Edge)]), (8, .box 1 [.int .i64 0, .nilsl]), (18, .tree 1 (.named 3) (trees1 : List JoinTree)), (22, .arr 1 (.int .i64) (masks1 : List Int))]⟩) (fun x => ((x.1 < length masks1 ∧ x.2.1 < length masks1) ∧ -1 ≤ x.2.2.1 ∧ x.2.2.1 ≤ 1000000000000000) ∧ v40 < x.2.2.2 ∧ ((x.2.2.1 = -1 ∧ v40 = 0 ∧ x.2.2.2 = v40 + 1) ∨ x.1 < x.2.1)) (fun x => (length masks1) - x.2.2.2) (fun k x => iGreedyTreeD_l3 g masks1 v40 k x.1 x.2.1 x.2.2.1 x.2.2.2) (first, second, least, v40 + 1) (by kernel_rfl) ?_ ?_ ?_
       · dsimp only; (refine ⟨?_, ?_⟩ <;> first | omega | (simp; done))
       ·
        intro x k426q hI3 hk424 e425; obtain ⟨first1, second1, least1, j⟩ := x; dsimp only at e425; replace hI3 : ((first1 < length masks1 ∧ second1 < length masks1) ∧ -1 ≤ least1 ∧ least1 ≤ 1000000000000000) ∧ v40 < j ∧ ((least1 = -1 ∧ v40 = 0 ∧ j = v40 + 1) ∨ first1 < second1) := hI3; refine seq (seq (r1U hC [1, 2, 4, 5, 7, 8, 9, 10, 11, 12, 39, 40, 48] [4, 8, 18, 22] [(48, .bool (decide ((j : Int) < (length masks1 : Int))))] [] ?_)); refine cdE e425 ?_ ?_
        ·
         intro h427q e428; refine kpU [1, 2, 4, 5, 7, 8, 9, 10, 11, 12, 39, 40] [4, 8, 18, 22] [] [] ?_; refine AW.skip (seq (block (seq (d0U hC hM [1, 2, 4, 5, 7, 8, 9, 10, 11, 12, 13, 39, 40] [4, 8, 18, 22] [(13, .int .i64 (gSize g (bits .or .i64 (getD masks1 v40 0) (getD masks1 j 0))))] [] [(0 ≤ (v40 : Int) ∧ (v40 : Int) < (length masks1 : Int)), (0 ≤ (j : Int) ∧ (j : Int) < (length masks1 : Int)), (VG g ∧ True)] ?_ ?_))))
         ·
          exact ⟨(by omega), (by omega), ⟨hV, trivial⟩, trivial⟩
         refine seq (r0U hC [1, 2, 4, 5, 7, 8, 9, 10, 11, 12, 13, 39, 40, 67] [4, 8, 18, 22] [(67, .bool (bif (least1 == (-1)) then true else (decide ((gSize g (bits .or .i64 (getD masks1 v40 0) (getD masks1 j 0))) < least1))))] [] [(((least1 == (-1)) = false) → (((least1 == (-1)) = false))), (((least1 == (-1)) = false) → (((least1 == (-1)) = false))), (((least1 == (-1)) = false) → (((least1 == (-1)) = false)))] ?_ ?_)
         ·
          exact ⟨(by intro g429; assumption), (by intro g430; assumption), (by intro g431; assumption), trivial⟩
         refine cdE e428 ?_ ?_
         ·
          intro h432q e433; refine r1U hC [1, 2, 4, 5, 7, 8, 9, 10, 11, 12, 39, 40] [4, 8, 18, 22] [(8, .int .i64 (v40 : Int)), (9, .int .i64 (j : Int)), (10, .int .i64 (gSize g (bits .or .i64 (getD masks1 v40 0) (getD masks1 j 0))))] [] ?_; refine r0U hC [1, 2, 4, 5, 7, 8, 9, 10, 11, 12, 39, 40] [4, 8, 18, 22] [(12, .int .i64 ((j + 1 : Nat) : Int))] [] [(-9223372036854775808 ≤ ((j + 1 : Nat) : Int) ∧ ((j + 1 : Nat) : Int) ≤ 9223372036854775807)] ?_ ?_
          ·
           exact ⟨(by omega), trivial⟩
          refine bk (v40, j, (gSize g (bits .or .i64 (getD masks1 v40 0) (getD masks1 j 0))), j + 1) e433 hk424 ?_ ?_
          · dsimp only; have hs := gSize_b hV (bits .or .i64 (getD masks1 v40 0) (getD masks1 j 0)); omega
          · simp only [lens]; omega
         ·
          intro h434q e435; refine kpU [1, 2, 4, 5, 7, 8, 9, 10, 11, 12, 39, 40] [4, 8, 18, 22] [] [] ?_; refine AW.skip (r0U hC [1, 2, 4, 5, 7, 8, 9, 10, 11, 12, 39, 40] [4, 8, 18, 22] [(12, .int .i64 ((j + 1 : Nat) : Int))] [] [(-9223372036854775808 ≤ ((j + 1 : Nat) : Int) ∧ ((j + 1 : Nat) : Int) ≤ 9223372036854775807)] ?_ ?_)
          ·
           exact ⟨(by omega), trivial⟩
          refine bk (first1, second1, least1, j + 1) e435 hk424 ?_ ?_
          · dsimp only; omega
          · simp only [lens]; omega
        · intro h436q e437; refine kpU [1, 2, 4, 5, 7, 8, 9, 10, 39, 40] [4, 8, 18, 22] [] [] ?_; refine exit ?_; refine meet (first1, second1, least1) (by kernel_rfl) ⟨?_, e437⟩; dsimp only; omega
       ·
        intro x hJ3 e438; obtain ⟨first1, second1, least1⟩ := x; replace hJ3 : ((first1 < length masks1 ∧ second1 < length masks1) ∧ -1 ≤ least1 ∧ least1 ≤ 1000000000000000) ∧ first1 < second1 := hJ3; have e439 := e423.trans (then_eq e438); dsimp only at e439; refine r0U hC [1, 2, 4, 5, 7, 8, 9, 10, 39, 40] [4, 8, 18, 22] [(40, .int .i64 ((v40 + 1 : Nat) : Int))] [] [(-9223372036854775808 ≤ ((v40 + 1 : Nat) : Int) ∧ ((v40 + 1 : Nat) : Int) ≤ 9223372036854775807)] ?_ ?_
        ·
         exact ⟨(by omega), trivial⟩
        refine bk (first1, second1, least1, v40 + 1) e439 hk419 ?_ ?_
        · refine ⟨?_, ?_⟩ <;> first | omega | (simp only [lens] at *; omega)
        · simp only [lens]; omega
      · intro h440q e441; refine kpU [1, 2, 4, 5, 7, 8, 9, 10] [4, 8, 18, 22] [] [] ?_; refine exit ?_; (refine meet (first, second, least) (by kernel_rfl) ⟨?_, e441⟩); dsimp only; omega
     ·
      intro x hJ2 e442; (obtain ⟨first, second, least⟩ := x); (replace hJ2 : ((first < length masks1 ∧ second < length masks1) ∧ -1 ≤ least ∧ least ≤ 1000000000000000) ∧ first < second := hJ2); have e443 := e418.trans (then_eq e442); dsimp only at e443; refine seq (r0U hC [1, 2, 4, 5, 7, 8, 9] [4, 8, 18, 22] [(7, .int .i64 (cost1 + least))] [] [(-9223372036854775808 ≤ (cost1 + least) ∧ (cost1 + least) ≤ 9223372036854775807)] ?_ ?_)
      ·
       exact ⟨(by omega), trivial⟩
      refine seq (AW.holeS 18 (ep := 1) (t := (.named 3)) (xs := (trees1 : List JoinTree)) (by kernel_rfl) (ne_nil_of_len (by omega)) ?_); intro fc444; (refine kp [1, 2, 4, 5, 7, 8, 9] [4, 8, 18, 22] ⟨[(1, .ref 4 1 0), (2, .ref 8 1 0), (4, .tr 18 1), (5, .arr 22 1), (7, .int .i64 (cost1 + least)), (8, .int .i64 (first : Int)), (9, .int .i64 (second : Int))], [(4, .box 1 [.data (.slice (.int .i64)) ((Graph.Rows g) : List Int), .data (.slice (.named 0)) ((Graph.Edges g) : List Edge)]), (8, .box 1 [.int .i64 0, .nilsl]), (18, .hole 1 (.named 3) (trees1 : List JoinTree) [] (some fc444)), (22, .arr 1 (.int .i64) (masks1 : List Int))]⟩ ?_); refine d0U hC hM [1, 2, 4, 5, 7, 8, 9] [4, 8, 18, 22] [] [(18, .hole 1 (.named 3) ((set trees1 first (JoinTree.mk 0 ([(getD trees1 first JoinTree.zero), (getD trees1 second JoinTree.zero)] : List JoinTree))) : List JoinTree) (List.filter (fun k => !(Nat.beq k first)) [first, second]) none)] [(0 ≤ (first : Int) ∧ (first : Int) < (length trees1 : Int)), (0 ≤ (second : Int) ∧ (second : Int) < (length trees1 : Int)), (first < length trees1 ∧ second < length trees1 ∧ first ≠ second), (fc444 first = fc444 first ∧ fc444 second = fc444 second), (0 ≤ (first : Int) ∧ (first : Int) < (length trees1 : Int))] ?_ ?_
      ·
       exact ⟨(by omega), (by omega), (by omega), ⟨rfl, rfl⟩, (by omega), trivial⟩
      refine seq (d0U hC hM [1, 2, 4, 5, 7, 9] [4, 8, 18, 22] [] [(22, .arr 1 (.int .i64) ((set masks1 first (bits .or .i64 (getD masks1 first 0) (getD masks1 second 0))) : List Int))] [(0 ≤ (first : Int) ∧ (first : Int) < (length masks1 : Int)), (0 ≤ (second : Int) ∧ (second : Int) < (length masks1 : Int)), (0 ≤ (first : Int) ∧ (first : Int) < (length masks1 : Int))] ?_ ?_)
      ·
       exact ⟨(by omega), (by omega), (by omega), trivial⟩
      refine seq (AW.regionO [0, 1, 2, 3, 4, 5] (by rfl) ?_)
      refine AWO.runU hC false [] [0, 1, 2, 3] [4, 5] [1, 2, 5, 7, 9, 98, 99, 101] [4, 8, 18, 22]
       [(98, .tr 18 1), (99, .int .i64 (second : Int)), (101, .int .i64 ((second + 1 : Nat) : Int))] []
       [(-9223372036854775808 ≤ ((second + 1 : Nat) : Int) ∧ ((second + 1 : Nat) : Int) ≤ 9223372036854775807)] (by rfl) (by kernel_rfl) ?_ ?_
      ·
       exact ⟨(by omega), trivial⟩
      refine AWO.deleteT (t := (.named 3)) (id := 18) (ep := 1) (xs := ((set trees1 first (JoinTree.mk 0 ([(getD trees1 first JoinTree.zero), (getD trees1 second JoinTree.zero)] : List JoinTree))) : List JoinTree)) (hs := List.filter (fun k => !(Nat.beq k first)) [first, second]) (o := none) (p := (second : Int)) (q := ((second + 1 : Nat) : Int)) del78 (by rfl) (by rfl) (by kernel_rfl) (by kernel_rfl) (by kernel_rfl) (by kernel_rfl) (by kernel_rfl) ?_ ?_ ?_
      · (show 0 ≤ (second : Int) ∧ (second : Int) < ((second + 1 : Nat) : Int) ∧ ((second + 1 : Nat) : Int) ≤ (length (set trees1 first (JoinTree.mk 0 ([(getD trees1 first JoinTree.zero), (getD trees1 second JoinTree.zero)] : List JoinTree))) : Int)); simp only [List.length_set]; omega
      · intro k hk; simp at hk; omega
      refine AWO.keepU [1, 2, 5, 7, 9, 102] [4, 8, 18, 22] [(102, .tr 18 1)] [(18, .tree 1 (.named 3) ((take second (set trees1 first (JoinTree.mk 0 ([(getD trees1 first JoinTree.zero), (getD trees1 second JoinTree.zero)] : List JoinTree))) ++ drop (second + 1) (set trees1 first (JoinTree.mk 0 ([(getD trees1 first JoinTree.zero), (getD trees1 second JoinTree.zero)] : List JoinTree)))) : List JoinTree))] (by kernel_rfl) ?_
      refine AWO.runU hC false [] [5] [] [1, 2, 4, 5, 7, 9] [4, 8, 18, 22]
       [(4, .tr 18 1)] []
       [] (by rfl) (by kernel_rfl) ?_ ?_
      · exact trivial
      refine AWO.nil ?_; refine AW.regionO [0, 1, 2, 3, 4, 5] (by rfl) ?_
      refine AWO.runU hC false [] [0, 1, 2, 3] [4, 5] [1, 2, 4, 7, 103, 104, 106] [4, 8, 18, 22]
       [(103, .arr 22 1), (104, .int .i64 (second : Int)), (106, .int .i64 ((second + 1 : Nat) : Int))] []
       [(-9223372036854775808 ≤ ((second + 1 : Nat) : Int) ∧ ((second + 1 : Nat) : Int) ≤ 9223372036854775807)] (by rfl) (by kernel_rfl) ?_ ?_
      ·
       exact ⟨(by omega), trivial⟩
      refine AWO.delete (t := (.int .i64)) (id := 22) (ep := 1) (xs := ((set masks1 first (bits .or .i64 (getD masks1 first 0) (getD masks1 second 0))) : List Int)) (p := (second : Int)) (q := ((second + 1 : Nat) : Int)) del79 (by rfl) (by rfl) (by kernel_rfl) (by kernel_rfl) (by kernel_rfl) (by kernel_rfl) (by kernel_rfl) ?_ ?_
      · (show 0 ≤ (second : Int) ∧ (second : Int) < ((second + 1 : Nat) : Int) ∧ ((second + 1 : Nat) : Int) ≤ (length (set masks1 first (bits .or .i64 (getD masks1 first 0) (getD masks1 second 0))) : Int)); simp only [List.length_set]; omega
      refine AWO.keepU [1, 2, 4, 7, 107] [4, 8, 18, 22] [(107, .arr 22 1)] [(22, .arr 1 (.int .i64) ((take second (set masks1 first (bits .or .i64 (getD masks1 first 0) (getD masks1 second 0))) ++ drop (second + 1) (set masks1 first (bits .or .i64 (getD masks1 first 0) (getD masks1 second 0)))) : List Int))] (by kernel_rfl) ?_
      refine AWO.runU hC false [] [5] [] [1, 2, 4, 5, 7] [4, 8, 18, 22]
       [(5, .arr 22 1)] []
       [] (by rfl) (by kernel_rfl) ?_ ?_
      · exact trivial
      refine AWO.nil ?_; refine bk ((cost1 + least), (take second (set trees1 first (JoinTree.mk 0 ([(getD trees1 first JoinTree.zero), (getD trees1 second JoinTree.zero)] : List JoinTree))) ++ drop (second + 1) (set trees1 first (JoinTree.mk 0 ([(getD trees1 first JoinTree.zero), (getD trees1 second JoinTree.zero)] : List JoinTree)))), (take second (set masks1 first (bits .or .i64 (getD masks1 first 0) (getD masks1 second 0))) ++ drop (second + 1) (set masks1 first (bits .or .i64 (getD masks1 first 0) (getD masks1 second 0))))) e443 hk414 ?_ ?_
      · refine ⟨?_, ?_⟩ <;> first | omega | (simp only [lens] at *; omega)
      · simp only [lens]; omega
    · intro h445q e446; refine kpU [2, 4, 7] [8, 18] [] [] ?_; refine exit ?_; refine meet (cost1, trees1) (by kernel_rfl) ⟨?_, e446⟩; dsimp only; omega
   ·
    intro x hJ1 e447; obtain ⟨cost1, trees1⟩ := x; replace hJ1 : (1 ≤ length trees1 ∧ length trees1 ≤ 5) ∧ (length trees1 : Int) - 5 ≤ cost1 ∧ cost1 ≤ 1000000000000000 * (5 - (length trees1 : Int)) := hJ1; have e448 := e25.trans (then_eq e447); dsimp only at e448; refine seq (AW.holeN 18 (ep := 1) (t := (.named 3)) (xs := (trees1 : List JoinTree)) (by kernel_rfl) (ne_nil_of_len (by omega)) ?_); refine kp [2, 4, 7] [8, 18] ⟨[(2, .ref 8 1 0), (4, .tr 18 1), (7, .int .i64 cost1)], [(8, .box 1 [.int .i64 0, .nilsl]), (18, .hole 1 (.named 3) (trees1 : List JoinTree) [] none)]⟩ ?_; refine r0U hC [2, 3] [8, 440] [(3, .int .i64 cost1)] [(8, .box 1 [.int .i64 (JoinTree.Leaf (getD trees1 0 JoinTree.zero)), .tr 440 1]), (440, .tree 1 (.named 3) ((JoinTree.Kids (getD trees1 0 JoinTree.zero)) : List JoinTree))] [(0 ≤ (0 : Int) ∧ (0 : Int) < (length trees1 : Int))] ?_ ?_
    ·
     exact ⟨(by omega), trivial⟩
    exact ret (AW.retE (β := JoinTree × Int) (fun v => [⟨(.named 3), v.1⟩, ⟨(.int .i64), v.2⟩]) (fun v => []) (v := ((JoinTree.mk (JoinTree.Leaf (getD trees1 0 JoinTree.zero)) (JoinTree.Kids (getD trees1 0 JoinTree.zero))), cost1)) e448 (by kernel_rfl) rfl rfl)

end
end Go.Proofs.Ytgbapklfgjnggaa
