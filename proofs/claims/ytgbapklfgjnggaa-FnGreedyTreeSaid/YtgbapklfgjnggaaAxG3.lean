/-
  A part of the proof of this claim (AxG3): what functions of the program compute, and plain facts of that. No conditions.
-/
import Derived.Test.YtgbapklfgjnggaaAxG2
set_option linter.all false
namespace Go.Proofs.Ytgbapklfgjnggaa
open Go Go.Am
noncomputable section

def iGreedyTree_l0 (g : Graph) : Nat → Nat → (List JoinTree) → (List Int) → (List JoinTree) × (List Int)
 | 0, v21, trees, masks => (trees, masks)
 | k + 1, v21, trees, masks => (bif (decide (((v21 : Nat) : Int) < ((List.length (Graph.Rows g) : Nat) : Int))) then (iGreedyTree_l0 g k (v21 + 1) (trees ++ ([(JoinTree.mk ((v21 : Nat) : Int) ([] : List JoinTree))] : List JoinTree)) (masks ++ ([((1 : Int) * 2 ^ v21)] : List Int))) else (trees, masks))

def iGreedyTree_l3 (g : Graph) (masks1 : List Int) (v40 : Nat) : Nat → Nat → Nat → Int → Nat → Nat × Nat × Int
 | 0, first1, second1, least1, j => (first1, second1, least1)
 | k + 1, first1, second1, least1, j => (bif (decide (((j : Nat) : Int) < ((List.length masks1 : Nat) : Int))) then (bif (bif (least1 == (-1)) then true else (decide ((gSize g (bits .or .i64 (List.getD masks1 v40 0) (List.getD masks1 j 0))) < least1))) then (iGreedyTree_l3 g masks1 v40 k v40 j (gSize g (bits .or .i64 (List.getD masks1 v40 0) (List.getD masks1 j 0))) (j + 1)) else (iGreedyTree_l3 g masks1 v40 k first1 second1 least1 (j + 1))) else (first1, second1, least1))

def iGreedyTree_l2 (g : Graph) (masks1 : List Int) : Nat → Nat → Nat → Int → Nat → Nat × Nat × Int
 | 0, first, second, least, v40 => (first, second, least)
 | k + 1, first, second, least, v40 => (bif (decide (((v40 : Nat) : Int) < ((List.length masks1 : Nat) : Int))) then (Go.Am.andThen (iGreedyTree_l3 g masks1 v40 ((List.length masks1) - (v40 + 1) + 1) first second least (v40 + 1)) (fun z => (fun (first1 : Nat) (second1 : Nat) (least1 : Int) => (iGreedyTree_l2 g masks1 k first1 second1 least1 (v40 + 1))) z.1 z.2.1 z.2.2)) else (first, second, least))

def iGreedyTree_l1 (g : Graph) : Nat → Int → (List JoinTree) → (List Int) → Int × (List JoinTree)
 | 0, cost1, trees1, masks1 => (cost1, trees1)
 | k + 1, cost1, trees1, masks1 => (bif (decide (1 < ((List.length trees1 : Nat) : Int))) then (Go.Am.andThen (iGreedyTree_l2 g masks1 ((List.length masks1) - 0 + 1) 0 0 (-1) 0) (fun z => (fun (first : Nat) (second : Nat) (least : Int) => (iGreedyTree_l1 g k (cost1 + least) (List.take second (List.set trees1 first (JoinTree.mk 0 ([(List.getD trees1 first JoinTree.zero), (List.getD trees1 second JoinTree.zero)] : List JoinTree))) ++ List.drop (second + 1) (List.set trees1 first (JoinTree.mk 0 ([(List.getD trees1 first JoinTree.zero), (List.getD trees1 second JoinTree.zero)] : List JoinTree)))) (List.take second (List.set masks1 first (bits .or .i64 (List.getD masks1 first 0) (List.getD masks1 second 0))) ++ List.drop (second + 1) (List.set masks1 first (bits .or .i64 (List.getD masks1 first 0) (List.getD masks1 second 0)))))) z.1 z.2.1 z.2.2)) else (cost1, trees1))

def iGreedyTree (g : Graph) : JoinTree × Int := (bif (!(ValidGraph g)) then ((JoinTree.mk 0 ([] : List JoinTree)), (-1)) else (Go.Am.andThen (iGreedyTree_l0 g ((List.length (Graph.Rows g)) - 0 + 1) 0 ([] : List JoinTree) ([] : List Int)) (fun z => (fun (trees : List JoinTree) (masks : List Int) => (Go.Am.andThen (iGreedyTree_l1 g (List.length trees + 1) 0 trees masks) (fun z => (fun (cost1 : Int) (trees1 : List JoinTree) => ((JoinTree.mk (JoinTree.Leaf (List.getD trees1 0 JoinTree.zero)) (JoinTree.Kids (List.getD trees1 0 JoinTree.zero))), cost1)) z.1 z.2))) z.1 z.2)))

def iGreedyTree_sp : FnSpec := mkSpec [.val (.named 1)] [.val (.named 3), .val (.int .i64)] (fun (g : Graph) => True) (fun (g : Graph) => [⟨(.named 3), ((iGreedyTree g).1)⟩, ⟨(.int .i64), ((iGreedyTree g).2)⟩])

theorem iGreedyTree_ok : FnOK Try.prog 47 iGreedyTree_sp := by
 have hC : CtxOK Try.prog (mkCtx tyL [(52, ValidGraph_sp), (54, gSize_sp)]) := CtxOK.cons ValidGraph_ok (CtxOK.cons gSize_ok (CtxOK.nil tyOK))
 have hM : Try.prog.follows .mixedOrders = true := Try.checked.mixed
 refine FnOK.of_body Try.func47 (by kernel_rfl) rfl (C := (mkCtx tyL [(52, ValidGraph_sp), (54, gSize_sp)])) hC.ty (by kernel_rfl) ?_
 intro (g : Graph) hwf hpre E
 have hpre : True := hpre
 have hw_g : Wf ⟨(.named 1), (g : Graph)⟩ := hwf _ (List.Mem.head _)
 have hl_g_Rows : ((List.length (Graph.Rows g) : Nat) : Int) ≤ 9223372036854775807 := (hw_g.field (tv := ⟨(.slice (.int .i64)), Graph.Rows g⟩) (List.Mem.head _)).len
 have hl_g_Edges : ((List.length (Graph.Edges g) : Nat) : Int) ≤ 9223372036854775807 := (hw_g.field (tv := ⟨(.slice (.named 0)), Graph.Edges g⟩) (List.Mem.tail _ (List.Mem.head _))).len
 have e0 : iGreedyTree g = iGreedyTree g := rfl
 refine AW.seq (AW.r1 hC [1, 2] [4, 8] ⟨[(1, .ref 4 1 0), (2, .ref 8 1 0)], [(4, .box 1 [.data (.slice (.int .i64)) ((Graph.Rows g) : List Int), .data (.slice (.named 0)) ((Graph.Edges g) : List Edge)]), (8, .box 1 [.int .i64 0, .nilsl])]⟩ ?_)
 refine AW.seq (AW.seq (AW.r0U hC [1, 2, 16] [4, 8] [(16, .bool (!(ValidGraph g)))] [] [(True)] ?_ ?_))
 ·
  refine ⟨?_, trivial⟩
  ·
   trivial
 refine AW.cd (!(ValidGraph g)) ?_ ?_
 ·
  intro h1
  have h1q : (ValidGraph g) = false := (Go.Am.not_pos h1)
  have e2 := e0.trans (Go.Am.bif_t h1)
  refine AW.seq (AW.r1U hC [2, 3] [8] [(3, .int .i64 (-1))] [] ?_)
  exact AW.ret (AW.retE (β := JoinTree × Int) (fun v => [⟨(.named 3), v.1⟩, ⟨(.int .i64), v.2⟩]) (fun v => []) (v := ((JoinTree.mk 0 ([] : List JoinTree)), (-1))) e2 (by kernel_rfl) rfl rfl)
 ·
  intro h3
  have h3q : (ValidGraph g) = true := (Go.Am.not_neg h3)
  have e4 := e0.trans (Go.Am.bif_f h3)
  refine AW.kpU [1, 2] [4, 8] [] [] ?_
  refine AW.skip (AW.seq ?_)
  have hV := ValidGraph_iff.1 h3q
  have hV5 := hV.n5
  have hV1 := hV.n1
  refine AW.r1U hC [1, 2, 4] [4, 8] [(4, .nilsl)] [] ?_
  refine AW.seq (AW.r1U hC [1, 2, 4, 5] [4, 8] [(5, .nilsl)] [] ?_)
  refine AW.seq (AW.seq (AW.r1U hC [1, 2, 4, 5, 20, 21] [4, 8] [(20, .int .i64 ((List.length (Graph.Rows g) : Nat) : Int)), (21, .int .i64 0)] [] ?_))
  refine AW.adopt 4 18 (.named 3) (by kernel_rfl) (by kernel_rfl) ?_
  refine AW.adopt 5 22 (.int .i64) (by kernel_rfl) (by kernel_rfl) ?_
  refine AW.kp [1, 2, 4, 5, 20, 21] [4, 8, 18, 22] ⟨[(1, .ref 4 1 0), (2, .ref 8 1 0), (4, .arr 18 1), (5, .arr 22 1), (20, .int .i64 ((List.length (Graph.Rows g) : Nat) : Int)), (21, .int .i64 0)], [(4, .box 1 [.data (.slice (.int .i64)) ((Graph.Rows g) : List Int), .data (.slice (.named 0)) ((Graph.Edges g) : List Edge)]), (8, .box 1 [.int .i64 0, .nilsl]), (18, .arr 1 (.named 3) (([] : List JoinTree) : List JoinTree)), (22, .arr 1 (.int .i64) (([] : List Int) : List Int))]⟩ ?_
  refine AW.cutQ (α := (List JoinTree) × (List Int)) (fun x => ⟨[(1, .ref 4 1 0), (2, .ref 8 1 0), (4, .arr 18 1), (5, .arr 22 1)], [(4, .box 1 [.data (.slice (.int .i64)) ((Graph.Rows g) : List Int), .data (.slice (.named 0)) ((Graph.Edges g) : List Edge)]), (8, .box 1 [.int .i64 0, .nilsl]), (18, .arr 1 (.named 3) (x.1 : List JoinTree)), (22, .arr 1 (.int .i64) (x.2 : List Int))]⟩) (fun x => (List.length x.1 = List.length (Graph.Rows g) ∧ List.length x.2 = List.length (Graph.Rows g)) ∧ (iGreedyTree_l0 g ((List.length (Graph.Rows g)) - 0 + 1) 0 ([] : List JoinTree) ([] : List Int)) = x) ?_ ?_
  ·
   skip
   refine AW.block (AW.loop (α := Nat × (List JoinTree) × (List Int)) (fun x => ⟨[(1, .ref 4 1 0), (2, .ref 8 1 0), (4, .arr 18 1), (5, .arr 22 1), (20, .int .i64 ((List.length (Graph.Rows g) : Nat) : Int)), (21, .int .i64 ((x.1 : Nat) : Int))], [(4, .box 1 [.data (.slice (.int .i64)) ((Graph.Rows g) : List Int), .data (.slice (.named 0)) ((Graph.Edges g) : List Edge)]), (8, .box 1 [.int .i64 0, .nilsl]), (18, .arr 1 (.named 3) (x.2.1 : List JoinTree)), (22, .arr 1 (.int .i64) (x.2.2 : List Int))]⟩) (fun x => (List.length x.2.1 = x.1 ∧ List.length x.2.2 = x.1 ∧ x.1 ≤ List.length (Graph.Rows g)) ∧ ∃ k, (List.length (Graph.Rows g)) - x.1 < k ∧ (iGreedyTree_l0 g ((List.length (Graph.Rows g)) - 0 + 1) 0 ([] : List JoinTree) ([] : List Int)) = iGreedyTree_l0 g k x.1 x.2.1 x.2.2) (fun x => (List.length (Graph.Rows g)) - x.1) (0, ([] : List JoinTree), ([] : List Int)) (by kernel_rfl) ⟨?_, _, Nat.lt_succ_self _, rfl⟩ ?_)
   ·
    show List.length ([] : List JoinTree) = 0 ∧ List.length ([] : List Int) = 0 ∧ 0 ≤ List.length (Graph.Rows g)
    refine ⟨?_, ?_⟩ <;> first | omega | simp
   ·
    intro x hR
    obtain ⟨v21, trees, masks⟩ := x
    obtain ⟨hI0, k19, hk17, e18⟩ := hR
    replace hI0 : List.length trees = v21 ∧ List.length masks = v21 ∧ v21 ≤ List.length (Graph.Rows g) := hI0
    replace hk17 : (List.length (Graph.Rows g)) - v21 < k19 := hk17
    obtain ⟨k19q, rfl⟩ : ∃ k, k19 = k + 1 := ⟨k19 - 1, by omega⟩
    refine AW.seq (AW.r1U hC [1, 2, 4, 5, 20, 21, 22] [4, 8, 18, 22] [(22, .bool (decide (((v21 : Nat) : Int) < ((List.length (Graph.Rows g) : Nat) : Int))))] [] ?_)
    refine AW.seq (AW.cd (decide (((v21 : Nat) : Int) < ((List.length (Graph.Rows g) : Nat) : Int))) ?_ ?_)
    ·
     intro h20
     have h20q : ((v21 : Nat) : Int) < ((List.length (Graph.Rows g) : Nat) : Int) := (of_decide_eq_true h20)
     have e21 := e18.trans (Go.Am.bif_t h20)
     refine AW.kpU [1, 2, 4, 5, 20, 21] [4, 8, 18, 22] [] [] ?_
     refine AW.skip (AW.seq (AW.block (AW.seq (AW.r1U hC [1, 2, 4, 5, 6, 20, 21] [4, 8, 18, 22] [(6, .int .i64 ((v21 : Nat) : Int))] [] ?_))))
     refine AW.seq (AW.r0U hC [1, 2, 4, 5, 6, 20, 21] [4, 8, 18, 22] [] [(18, .arr 1 (.named 3) ((trees ++ ([(JoinTree.mk ((v21 : Nat) : Int) ([] : List JoinTree))] : List JoinTree)) : List JoinTree))] [(((List.length trees : Nat) : Int) + ((List.length ([(JoinTree.mk ((v21 : Nat) : Int) ([] : List JoinTree))] : List JoinTree) : Nat) : Int) ≤ 4294967296)] ?_ ?_)
     ·
      refine ⟨?_, trivial⟩
      ·
       simp only [List.length_append, List.length_cons, List.length_nil]
       omega
     refine AW.r0U hC [1, 2, 4, 5, 20, 21] [4, 8, 18, 22] [] [(22, .arr 1 (.int .i64) ((masks ++ ([((1 : Int) * 2 ^ v21)] : List Int)) : List Int))] [(0 ≤ ((v21 : Nat) : Int) ∧ ((v21 : Nat) : Int) ≤ 64), (-9223372036854775808 ≤ ((1 : Int) * 2 ^ v21) ∧ ((1 : Int) * 2 ^ v21) ≤ 9223372036854775807), (((List.length masks : Nat) : Int) + ((List.length ([((1 : Int) * 2 ^ v21)] : List Int) : Nat) : Int) ≤ 4294967296)] ?_ ?_
     ·
      refine ⟨?_, ?_, ?_, trivial⟩
      ·
       omega
      ·
       have := pow2 (n := v21) (by omega)
       omega
      ·
       simp only [List.length_append, List.length_cons, List.length_nil]
       omega
     refine AW.r0U hC [1, 2, 4, 5, 20, 21] [4, 8, 18, 22] [(21, .int .i64 ((v21 + 1 : Nat) : Int))] [] [(-9223372036854775808 ≤ ((v21 + 1 : Nat) : Int) ∧ ((v21 + 1 : Nat) : Int) ≤ 9223372036854775807)] ?_ ?_
     ·
      refine ⟨?_, trivial⟩
      ·
       omega
     refine AW.back (x := (v21, trees, masks)) (v21 + 1, (trees ++ ([(JoinTree.mk ((v21 : Nat) : Int) ([] : List JoinTree))] : List JoinTree)), (masks ++ ([((1 : Int) * 2 ^ v21)] : List Int))) (by kernel_rfl) ⟨?_, k19q, ?_, e21⟩ ?_
     ·
      show List.length (trees ++ ([(JoinTree.mk ((v21 : Nat) : Int) ([] : List JoinTree))] : List JoinTree)) = (v21 + 1) ∧ List.length (masks ++ ([((1 : Int) * 2 ^ v21)] : List Int)) = (v21 + 1) ∧ (v21 + 1) ≤ List.length (Graph.Rows g)
      refine ⟨?_, ?_⟩ <;> first | omega | (simp only [lens] at *; omega)
     ·
      show (List.length (Graph.Rows g)) - (v21 + 1) < k19q
      omega
     ·
      show (List.length (Graph.Rows g)) - (v21 + 1) < (List.length (Graph.Rows g)) - v21
      omega
    ·
     intro h22
     have h22q : ¬ (((v21 : Nat) : Int) < ((List.length (Graph.Rows g) : Nat) : Int)) := (of_decide_eq_false h22)
     have e23 := e18.trans (Go.Am.bif_f h22)
     refine AW.kpU [1, 2, 4, 5] [4, 8, 18, 22] [] [] ?_
     refine AW.exit ?_
     refine AW.meet (trees, masks) (by kernel_rfl) ⟨?_, e23⟩
     show List.length trees = List.length (Graph.Rows g) ∧ List.length masks = List.length (Graph.Rows g)
     omega
  ·
   intro x hR
   obtain ⟨trees, masks⟩ := x
   obtain ⟨hJ0, e24⟩ := hR
   replace hJ0 : List.length trees = List.length (Graph.Rows g) ∧ List.length masks = List.length (Graph.Rows g) := hJ0
   have e25 := e4.trans (Go.Am.then_eq e24)
   refine AW.seq (AW.r1U hC [1, 2, 4, 5, 7] [4, 8, 18, 22] [(7, .int .i64 0)] [] ?_)
   refine AW.seq (AW.cutQ (α := Int × (List JoinTree)) (fun x => ⟨[(2, .ref 8 1 0), (4, .arr 18 1), (7, .int .i64 x.1)], [(8, .box 1 [.int .i64 0, .nilsl]), (18, .arr 1 (.named 3) (x.2 : List JoinTree))]⟩) (fun x => ((1 ≤ List.length x.2 ∧ List.length x.2 ≤ 5) ∧ ((List.length x.2 : Nat) : Int) - 5 ≤ x.1 ∧ x.1 ≤ 1000000000000000 * (5 - ((List.length x.2 : Nat) : Int))) ∧ (iGreedyTree_l1 g (List.length trees + 1) 0 trees masks) = x) ?_ ?_)
   ·
    skip
    refine AW.block (AW.loop (α := Int × (List JoinTree) × (List Int)) (fun x => ⟨[(1, .ref 4 1 0), (2, .ref 8 1 0), (4, .arr 18 1), (5, .arr 22 1), (7, .int .i64 x.1)], [(4, .box 1 [.data (.slice (.int .i64)) ((Graph.Rows g) : List Int), .data (.slice (.named 0)) ((Graph.Edges g) : List Edge)]), (8, .box 1 [.int .i64 0, .nilsl]), (18, .arr 1 (.named 3) (x.2.1 : List JoinTree)), (22, .arr 1 (.int .i64) (x.2.2 : List Int))]⟩) (fun x => ((List.length x.2.2 = List.length x.2.1 ∧ 1 ≤ List.length x.2.1 ∧ List.length x.2.1 ≤ 5) ∧ ((List.length x.2.1 : Nat) : Int) - 5 ≤ x.1 ∧ x.1 ≤ 1000000000000000 * (5 - ((List.length x.2.1 : Nat) : Int))) ∧ ∃ k, List.length x.2.1 < k ∧ (iGreedyTree_l1 g (List.length trees + 1) 0 trees masks) = iGreedyTree_l1 g k x.1 x.2.1 x.2.2) (fun x => List.length x.2.1) (0, trees, masks) (by kernel_rfl) ⟨?_, _, Nat.lt_succ_self _, rfl⟩ ?_)
    ·
     show (List.length masks = List.length trees ∧ 1 ≤ List.length trees ∧ List.length trees ≤ 5) ∧ ((List.length trees : Nat) : Int) - 5 ≤ 0 ∧ 0 ≤ 1000000000000000 * (5 - ((List.length trees : Nat) : Int))
     omega
    ·
     intro x hR
     obtain ⟨cost1, trees1, masks1⟩ := x
     obtain ⟨hI1, k412, hk410, e411⟩ := hR
     replace hI1 : (List.length masks1 = List.length trees1 ∧ 1 ≤ List.length trees1 ∧ List.length trees1 ≤ 5) ∧ ((List.length trees1 : Nat) : Int) - 5 ≤ cost1 ∧ cost1 ≤ 1000000000000000 * (5 - ((List.length trees1 : Nat) : Int)) := hI1
     replace hk410 : List.length trees1 < k412 := hk410
     obtain ⟨k412q, rfl⟩ : ∃ k, k412 = k + 1 := ⟨k412 - 1, by omega⟩
     refine AW.seq (AW.seq (AW.r1U hC [1, 2, 4, 5, 7, 37] [4, 8, 18, 22] [(37, .bool (decide (1 < ((List.length trees1 : Nat) : Int))))] [] ?_))
     refine AW.cd (decide (1 < ((List.length trees1 : Nat) : Int))) ?_ ?_
     ·
      intro h413
      have h413q : 1 < ((List.length trees1 : Nat) : Int) := (of_decide_eq_true h413)
      have e414 := e411.trans (Go.Am.bif_t h413)
      refine AW.kpU [1, 2, 4, 5, 7] [4, 8, 18, 22] [] [] ?_
      refine AW.skip (AW.block (AW.seq (AW.r1U hC [1, 2, 4, 5, 7, 8, 9, 10] [4, 8, 18, 22] [(8, .int .i64 0), (9, .int .i64 0), (10, .int .i64 (-1))] [] ?_)))
      refine AW.seq (AW.seq (AW.r1U hC [1, 2, 4, 5, 7, 8, 9, 10, 39, 40] [4, 8, 18, 22] [(39, .int .i64 ((List.length masks1 : Nat) : Int)), (40, .int .i64 0)] [] ?_))
      refine AW.cutQ (α := Nat × Nat × Int) (fun x => ⟨[(1, .ref 4 1 0), (2, .ref 8 1 0), (4, .arr 18 1), (5, .arr 22 1), (7, .int .i64 cost1), (8, .int .i64 ((x.1 : Nat) : Int)), (9, .int .i64 ((x.2.1 : Nat) : Int)), (10, .int .i64 x.2.2)], [(4, .box 1 [.data (.slice (.int .i64)) ((Graph.Rows g) : List Int), .data (.slice (.named 0)) ((Graph.Edges g) : List Edge)]), (8, .box 1 [.int .i64 0, .nilsl]), (18, .arr 1 (.named 3) (trees1 : List JoinTree)), (22, .arr 1 (.int .i64) (masks1 : List Int))]⟩) (fun x => ((x.1 < List.length masks1 ∧ x.2.1 < List.length masks1) ∧ -1 ≤ x.2.2 ∧ x.2.2 ≤ 1000000000000000) ∧ (iGreedyTree_l2 g masks1 ((List.length masks1) - 0 + 1) 0 0 (-1) 0) = x) ?_ ?_
      ·
       skip
       refine AW.block (AW.loop (α := Nat × Nat × Int × Nat) (fun x => ⟨[(1, .ref 4 1 0), (2, .ref 8 1 0), (4, .arr 18 1), (5, .arr 22 1), (7, .int .i64 cost1), (8, .int .i64 ((x.1 : Nat) : Int)), (9, .int .i64 ((x.2.1 : Nat) : Int)), (10, .int .i64 x.2.2.1), (39, .int .i64 ((List.length masks1 : Nat) : Int)), (40, .int .i64 ((x.2.2.2 : Nat) : Int))], [(4, .box 1 [.data (.slice (.int .i64)) ((Graph.Rows g) : List Int), .data (.slice (.named 0)) ((Graph.Edges g) : List Edge)]), (8, .box 1 [.int .i64 0, .nilsl]), (18, .arr 1 (.named 3) (trees1 : List JoinTree)), (22, .arr 1 (.int .i64) (masks1 : List Int))]⟩) (fun x => ((x.1 < List.length masks1 ∧ x.2.1 < List.length masks1) ∧ -1 ≤ x.2.2.1 ∧ x.2.2.1 ≤ 1000000000000000) ∧ ∃ k, (List.length masks1) - x.2.2.2 < k ∧ (iGreedyTree_l2 g masks1 ((List.length masks1) - 0 + 1) 0 0 (-1) 0) = iGreedyTree_l2 g masks1 k x.1 x.2.1 x.2.2.1 x.2.2.2) (fun x => (List.length masks1) - x.2.2.2) (0, 0, (-1), 0) (by kernel_rfl) ⟨?_, _, Nat.lt_succ_self _, rfl⟩ ?_)
       ·
        show (0 < List.length masks1 ∧ 0 < List.length masks1) ∧ -1 ≤ (-1) ∧ (-1) ≤ 1000000000000000
        refine ⟨?_, ?_⟩ <;> first | omega | simp
       ·
        intro x hR
        obtain ⟨first, second, least, v40⟩ := x
        obtain ⟨hI2, k417, hk415, e416⟩ := hR
        replace hI2 : (first < List.length masks1 ∧ second < List.length masks1) ∧ -1 ≤ least ∧ least ≤ 1000000000000000 := hI2
        replace hk415 : (List.length masks1) - v40 < k417 := hk415
        obtain ⟨k417q, rfl⟩ : ∃ k, k417 = k + 1 := ⟨k417 - 1, by omega⟩
        refine AW.seq (AW.r1U hC [1, 2, 4, 5, 7, 8, 9, 10, 39, 40, 41] [4, 8, 18, 22] [(41, .bool (decide (((v40 : Nat) : Int) < ((List.length masks1 : Nat) : Int))))] [] ?_)
        refine AW.seq (AW.cd (decide (((v40 : Nat) : Int) < ((List.length masks1 : Nat) : Int))) ?_ ?_)
        ·
         intro h418
         have h418q : ((v40 : Nat) : Int) < ((List.length masks1 : Nat) : Int) := (of_decide_eq_true h418)
         have e419 := e416.trans (Go.Am.bif_t h418)
         refine AW.kpU [1, 2, 4, 5, 7, 8, 9, 10, 39, 40] [4, 8, 18, 22] [] [] ?_
         refine AW.skip (AW.seq (AW.block (AW.seq (AW.r1U hC [1, 2, 4, 5, 7, 8, 9, 10, 11, 39, 40] [4, 8, 18, 22] [(11, .int .i64 ((v40 : Nat) : Int))] [] ?_))))
         refine AW.seq (AW.r0U hC [1, 2, 4, 5, 7, 8, 9, 10, 11, 12, 39, 40] [4, 8, 18, 22] [(12, .int .i64 ((v40 + 1 : Nat) : Int))] [] [(-9223372036854775808 ≤ ((v40 + 1 : Nat) : Int) ∧ ((v40 + 1 : Nat) : Int) ≤ 9223372036854775807)] ?_ ?_)
         ·
          refine ⟨?_, trivial⟩
          ·
           omega
         refine AW.cutQ (α := Nat × Nat × Int) (fun x => ⟨[(1, .ref 4 1 0), (2, .ref 8 1 0), (4, .arr 18 1), (5, .arr 22 1), (7, .int .i64 cost1), (8, .int .i64 ((x.1 : Nat) : Int)), (9, .int .i64 ((x.2.1 : Nat) : Int)), (10, .int .i64 x.2.2), (39, .int .i64 ((List.length masks1 : Nat) : Int)), (40, .int .i64 ((v40 : Nat) : Int))], [(4, .box 1 [.data (.slice (.int .i64)) ((Graph.Rows g) : List Int), .data (.slice (.named 0)) ((Graph.Edges g) : List Edge)]), (8, .box 1 [.int .i64 0, .nilsl]), (18, .arr 1 (.named 3) (trees1 : List JoinTree)), (22, .arr 1 (.int .i64) (masks1 : List Int))]⟩) (fun x => ((x.1 < List.length masks1 ∧ x.2.1 < List.length masks1) ∧ -1 ≤ x.2.2 ∧ x.2.2 ≤ 1000000000000000) ∧ (iGreedyTree_l3 g masks1 v40 ((List.length masks1) - (v40 + 1) + 1) first second least (v40 + 1)) = x) ?_ ?_
         ·
          skip
          refine AW.block (AW.loop (α := Nat × Nat × Int × Nat) (fun x => ⟨[(1, .ref 4 1 0), (2, .ref 8 1 0), (4, .arr 18 1), (5, .arr 22 1), (7, .int .i64 cost1), (8, .int .i64 ((x.1 : Nat) : Int)), (9, .int .i64 ((x.2.1 : Nat) : Int)), (10, .int .i64 x.2.2.1), (11, .int .i64 ((v40 : Nat) : Int)), (12, .int .i64 ((x.2.2.2 : Nat) : Int)), (39, .int .i64 ((List.length masks1 : Nat) : Int)), (40, .int .i64 ((v40 : Nat) : Int))], [(4, .box 1 [.data (.slice (.int .i64)) ((Graph.Rows g) : List Int), .data (.slice (.named 0)) ((Graph.Edges g) : List Edge)]), (8, .box 1 [.int .i64 0, .nilsl]), (18, .arr 1 (.named 3) (trees1 : List JoinTree)), (22, .arr 1 (.int .i64) (masks1 : List Int))]⟩) (fun x => ((x.1 < List.length masks1 ∧ x.2.1 < List.length masks1) ∧ -1 ≤ x.2.2.1 ∧ x.2.2.1 ≤ 1000000000000000) ∧ ∃ k, (List.length masks1) - x.2.2.2 < k ∧ (iGreedyTree_l3 g masks1 v40 ((List.length masks1) - (v40 + 1) + 1) first second least (v40 + 1)) = iGreedyTree_l3 g masks1 v40 k x.1 x.2.1 x.2.2.1 x.2.2.2) (fun x => (List.length masks1) - x.2.2.2) (first, second, least, v40 + 1) (by kernel_rfl) ⟨?_, _, Nat.lt_succ_self _, rfl⟩ ?_)
          ·
           show (first < List.length masks1 ∧ second < List.length masks1) ∧ -1 ≤ least ∧ least ≤ 1000000000000000
           refine ⟨?_, ?_⟩ <;> first | omega | simp
          ·
           intro x hR
           obtain ⟨first1, second1, least1, j⟩ := x
           obtain ⟨hI3, k422, hk420, e421⟩ := hR
           replace hI3 : (first1 < List.length masks1 ∧ second1 < List.length masks1) ∧ -1 ≤ least1 ∧ least1 ≤ 1000000000000000 := hI3
           replace hk420 : (List.length masks1) - j < k422 := hk420
           obtain ⟨k422q, rfl⟩ : ∃ k, k422 = k + 1 := ⟨k422 - 1, by omega⟩
           refine AW.seq (AW.seq (AW.r1U hC [1, 2, 4, 5, 7, 8, 9, 10, 11, 12, 39, 40, 48] [4, 8, 18, 22] [(48, .bool (decide (((j : Nat) : Int) < ((List.length masks1 : Nat) : Int))))] [] ?_))
           refine AW.cd (decide (((j : Nat) : Int) < ((List.length masks1 : Nat) : Int))) ?_ ?_
           ·
            intro h423
            have h423q : ((j : Nat) : Int) < ((List.length masks1 : Nat) : Int) := (of_decide_eq_true h423)
            have e424 := e421.trans (Go.Am.bif_t h423)
            refine AW.kpU [1, 2, 4, 5, 7, 8, 9, 10, 11, 12, 39, 40] [4, 8, 18, 22] [] [] ?_
            refine AW.skip (AW.seq (AW.block (AW.seq (AW.d0U hC hM [1, 2, 4, 5, 7, 8, 9, 10, 11, 12, 13, 39, 40] [4, 8, 18, 22] [(13, .int .i64 (gSize g (bits .or .i64 (List.getD masks1 v40 0) (List.getD masks1 j 0))))] [] [(0 ≤ ((v40 : Nat) : Int) ∧ ((v40 : Nat) : Int) < ((List.length masks1 : Nat) : Int)), (0 ≤ ((j : Nat) : Int) ∧ ((j : Nat) : Int) < ((List.length masks1 : Nat) : Int)), (VG g ∧ True)] ?_ ?_))))
            ·
             refine ⟨?_, ?_, ?_, trivial⟩
             ·
              omega
             ·
              omega
             ·
              exact ⟨hV, trivial⟩
            refine AW.seq (AW.r0U hC [1, 2, 4, 5, 7, 8, 9, 10, 11, 12, 13, 39, 40, 67] [4, 8, 18, 22] [(67, .bool (bif (least1 == (-1)) then true else (decide ((gSize g (bits .or .i64 (List.getD masks1 v40 0) (List.getD masks1 j 0))) < least1))))] [] [(((least1 == (-1)) = false) → (((least1 == (-1)) = false))), (((least1 == (-1)) = false) → (((least1 == (-1)) = false))), (((least1 == (-1)) = false) → (((least1 == (-1)) = false)))] ?_ ?_)
            ·
             refine ⟨?_, ?_, ?_, trivial⟩
             ·
              intro g425
              have g425p0 : least1 ≠ (-1) := (Go.Am.beq_neg g425)
              assumption
             ·
              intro g426
              have g426p0 : least1 ≠ (-1) := (Go.Am.beq_neg g426)
              assumption
             ·
              intro g427
              have g427p0 : least1 ≠ (-1) := (Go.Am.beq_neg g427)
              assumption
            refine AW.cd (bif (least1 == (-1)) then true else (decide ((gSize g (bits .or .i64 (List.getD masks1 v40 0) (List.getD masks1 j 0))) < least1))) ?_ ?_
            ·
             intro h428
             have h428q : (least1 = (-1)) ∨ ((gSize g (bits .or .i64 (List.getD masks1 v40 0) (List.getD masks1 j 0))) < least1) := (Or.imp (fun h => (Go.Am.beq_pos h)) (fun h => (of_decide_eq_true h)) (Go.Am.or_pos h428))
             have e429 := e424.trans (Go.Am.bif_t h428)
             refine AW.r1U hC [1, 2, 4, 5, 7, 8, 9, 10, 11, 12, 39, 40] [4, 8, 18, 22] [(8, .int .i64 ((v40 : Nat) : Int)), (9, .int .i64 ((j : Nat) : Int)), (10, .int .i64 (gSize g (bits .or .i64 (List.getD masks1 v40 0) (List.getD masks1 j 0))))] [] ?_
             refine AW.r0U hC [1, 2, 4, 5, 7, 8, 9, 10, 11, 12, 39, 40] [4, 8, 18, 22] [(12, .int .i64 ((j + 1 : Nat) : Int))] [] [(-9223372036854775808 ≤ ((j + 1 : Nat) : Int) ∧ ((j + 1 : Nat) : Int) ≤ 9223372036854775807)] ?_ ?_
             ·
              refine ⟨?_, trivial⟩
              ·
               omega
             refine AW.back (x := (first1, second1, least1, j)) (v40, j, (gSize g (bits .or .i64 (List.getD masks1 v40 0) (List.getD masks1 j 0))), j + 1) (by kernel_rfl) ⟨?_, k422q, ?_, e429⟩ ?_
             ·
              show (v40 < List.length masks1 ∧ j < List.length masks1) ∧ -1 ≤ (gSize g (bits .or .i64 (List.getD masks1 v40 0) (List.getD masks1 j 0))) ∧ (gSize g (bits .or .i64 (List.getD masks1 v40 0) (List.getD masks1 j 0))) ≤ 1000000000000000
              have hs := gSize_b hV (bits .or .i64 (List.getD masks1 v40 0) (List.getD masks1 j 0))
              omega
             ·
              show (List.length masks1) - (j + 1) < k422q
              omega
             ·
              show (List.length masks1) - (j + 1) < (List.length masks1) - j
              omega
            ·
             intro h430
             have h430q : (least1 ≠ (-1)) ∧ (¬ ((gSize g (bits .or .i64 (List.getD masks1 v40 0) (List.getD masks1 j 0))) < least1)) := (And.imp (fun h => (Go.Am.beq_neg h)) (fun h => (of_decide_eq_false h)) (Go.Am.or_neg h430))
             have e431 := e424.trans (Go.Am.bif_f h430)
             refine AW.kpU [1, 2, 4, 5, 7, 8, 9, 10, 11, 12, 39, 40] [4, 8, 18, 22] [] [] ?_
             refine AW.skip (AW.r0U hC [1, 2, 4, 5, 7, 8, 9, 10, 11, 12, 39, 40] [4, 8, 18, 22] [(12, .int .i64 ((j + 1 : Nat) : Int))] [] [(-9223372036854775808 ≤ ((j + 1 : Nat) : Int) ∧ ((j + 1 : Nat) : Int) ≤ 9223372036854775807)] ?_ ?_)
             ·
              refine ⟨?_, trivial⟩
              ·
               omega
             refine AW.back (x := (first1, second1, least1, j)) (first1, second1, least1, j + 1) (by kernel_rfl) ⟨?_, k422q, ?_, e431⟩ ?_
             ·
              show (first1 < List.length masks1 ∧ second1 < List.length masks1) ∧ -1 ≤ least1 ∧ least1 ≤ 1000000000000000
              omega
             ·
              show (List.length masks1) - (j + 1) < k422q
              omega
             ·
              show (List.length masks1) - (j + 1) < (List.length masks1) - j
              omega
           ·
            intro h432
            have h432q : ¬ (((j : Nat) : Int) < ((List.length masks1 : Nat) : Int)) := (of_decide_eq_false h432)
            have e433 := e421.trans (Go.Am.bif_f h432)
            refine AW.kpU [1, 2, 4, 5, 7, 8, 9, 10, 39, 40] [4, 8, 18, 22] [] [] ?_
            refine AW.exit ?_
            refine AW.meet (first1, second1, least1) (by kernel_rfl) ⟨?_, e433⟩
            show (first1 < List.length masks1 ∧ second1 < List.length masks1) ∧ -1 ≤ least1 ∧ least1 ≤ 1000000000000000
            assumption
         ·
          intro x hR
          obtain ⟨first1, second1, least1⟩ := x
          obtain ⟨hJ3, e434⟩ := hR
          replace hJ3 : (first1 < List.length masks1 ∧ second1 < List.length masks1) ∧ -1 ≤ least1 ∧ least1 ≤ 1000000000000000 := hJ3
          have e435 := e419.trans (Go.Am.then_eq e434)
          refine AW.r0U hC [1, 2, 4, 5, 7, 8, 9, 10, 39, 40] [4, 8, 18, 22] [(40, .int .i64 ((v40 + 1 : Nat) : Int))] [] [(-9223372036854775808 ≤ ((v40 + 1 : Nat) : Int) ∧ ((v40 + 1 : Nat) : Int) ≤ 9223372036854775807)] ?_ ?_
          ·
           refine ⟨?_, trivial⟩
           ·
            omega
          refine AW.back (x := (first, second, least, v40)) (first1, second1, least1, v40 + 1) (by kernel_rfl) ⟨?_, k417q, ?_, e435⟩ ?_
          ·
           show (first1 < List.length masks1 ∧ second1 < List.length masks1) ∧ -1 ≤ least1 ∧ least1 ≤ 1000000000000000
           assumption
          ·
           show (List.length masks1) - (v40 + 1) < k417q
           omega
          ·
           show (List.length masks1) - (v40 + 1) < (List.length masks1) - v40
           omega
        ·
         intro h436
         have h436q : ¬ (((v40 : Nat) : Int) < ((List.length masks1 : Nat) : Int)) := (of_decide_eq_false h436)
         have e437 := e416.trans (Go.Am.bif_f h436)
         refine AW.kpU [1, 2, 4, 5, 7, 8, 9, 10] [4, 8, 18, 22] [] [] ?_
         refine AW.exit ?_
         refine AW.meet (first, second, least) (by kernel_rfl) ⟨?_, e437⟩
         show (first < List.length masks1 ∧ second < List.length masks1) ∧ -1 ≤ least ∧ least ≤ 1000000000000000
         assumption
      ·
       intro x hR
       obtain ⟨first, second, least⟩ := x
       obtain ⟨hJ2, e438⟩ := hR
       replace hJ2 : (first < List.length masks1 ∧ second < List.length masks1) ∧ -1 ≤ least ∧ least ≤ 1000000000000000 := hJ2
       have e439 := e414.trans (Go.Am.then_eq e438)
       refine AW.seq (AW.r0U hC [1, 2, 4, 5, 7, 8, 9] [4, 8, 18, 22] [(7, .int .i64 (cost1 + least))] [] [(-9223372036854775808 ≤ (cost1 + least) ∧ (cost1 + least) ≤ 9223372036854775807)] ?_ ?_)
       ·
        refine ⟨?_, trivial⟩
        ·
         omega
       refine AW.seq (AW.d0U hC hM [1, 2, 4, 5, 7, 8, 9] [4, 8, 18, 22] [] [(18, .arr 1 (.named 3) ((List.set trees1 first (JoinTree.mk 0 ([(List.getD trees1 first JoinTree.zero), (List.getD trees1 second JoinTree.zero)] : List JoinTree))) : List JoinTree))] [(0 ≤ ((first : Nat) : Int) ∧ ((first : Nat) : Int) < ((List.length trees1 : Nat) : Int)), (0 ≤ ((second : Nat) : Int) ∧ ((second : Nat) : Int) < ((List.length trees1 : Nat) : Int)), (0 ≤ ((first : Nat) : Int) ∧ ((first : Nat) : Int) < ((List.length trees1 : Nat) : Int))] ?_ ?_)
       ·
        refine ⟨?_, ?_, ?_, trivial⟩
        ·
         omega
        ·
         omega
        ·
         omega
       refine AW.seq (AW.d0U hC hM [1, 2, 4, 5, 7, 9] [4, 8, 18, 22] [] [(22, .arr 1 (.int .i64) ((List.set masks1 first (bits .or .i64 (List.getD masks1 first 0) (List.getD masks1 second 0))) : List Int))] [(0 ≤ ((first : Nat) : Int) ∧ ((first : Nat) : Int) < ((List.length masks1 : Nat) : Int)), (0 ≤ ((second : Nat) : Int) ∧ ((second : Nat) : Int) < ((List.length masks1 : Nat) : Int)), (0 ≤ ((first : Nat) : Int) ∧ ((first : Nat) : Int) < ((List.length masks1 : Nat) : Int))] ?_ ?_)
       ·
        refine ⟨?_, ?_, ?_, trivial⟩
        ·
         omega
        ·
         omega
        ·
         omega
       refine AW.seq (AW.regionO [0, 1, 2, 3, 4, 5] (by rfl) ?_)
       refine AWO.runU hC false [] [0, 1, 2, 3] [4, 5] [1, 2, 5, 7, 9, 98, 99, 101] [4, 8, 18, 22]
        [(98, .arr 18 1), (99, .int .i64 ((second : Nat) : Int)), (101, .int .i64 ((second + 1 : Nat) : Int))] []
        [(-9223372036854775808 ≤ ((second + 1 : Nat) : Int) ∧ ((second + 1 : Nat) : Int) ≤ 9223372036854775807)] (by rfl) (by kernel_rfl) ?_ ?_
       ·
        refine ⟨?_, trivial⟩
        ·
         omega
       refine AWO.delete (t := (.named 3)) (id := 18) (ep := 1) (xs := ((List.set trees1 first (JoinTree.mk 0 ([(List.getD trees1 first JoinTree.zero), (List.getD trees1 second JoinTree.zero)] : List JoinTree))) : List JoinTree)) (p := ((second : Nat) : Int)) (q := ((second + 1 : Nat) : Int)) del78 (by rfl) (by rfl) (by kernel_rfl) (by kernel_rfl) (by kernel_rfl) (by kernel_rfl) (by kernel_rfl) ?_ ?_
       ·
        show 0 ≤ ((second : Nat) : Int) ∧ ((second : Nat) : Int) < ((second + 1 : Nat) : Int) ∧ ((second + 1 : Nat) : Int) ≤ ((List.length (List.set trees1 first (JoinTree.mk 0 ([(List.getD trees1 first JoinTree.zero), (List.getD trees1 second JoinTree.zero)] : List JoinTree))) : Nat) : Int)
        simp only [List.length_set]
        omega
       refine AWO.keepU [1, 2, 5, 7, 9, 102] [4, 8, 18, 22] [(102, .arr 18 1)] [(18, .arr 1 (.named 3) ((List.take second (List.set trees1 first (JoinTree.mk 0 ([(List.getD trees1 first JoinTree.zero), (List.getD trees1 second JoinTree.zero)] : List JoinTree))) ++ List.drop (second + 1) (List.set trees1 first (JoinTree.mk 0 ([(List.getD trees1 first JoinTree.zero), (List.getD trees1 second JoinTree.zero)] : List JoinTree)))) : List JoinTree))] (by kernel_rfl) ?_
       refine AWO.runU hC false [] [5] [] [1, 2, 4, 5, 7, 9] [4, 8, 18, 22]
        [(4, .arr 18 1)] []
        [] (by rfl) (by kernel_rfl) ?_ ?_
       ·
        exact trivial
       refine AWO.nil ?_
       refine AW.regionO [0, 1, 2, 3, 4, 5] (by rfl) ?_
       refine AWO.runU hC false [] [0, 1, 2, 3] [4, 5] [1, 2, 4, 7, 103, 104, 106] [4, 8, 18, 22]
        [(103, .arr 22 1), (104, .int .i64 ((second : Nat) : Int)), (106, .int .i64 ((second + 1 : Nat) : Int))] []
        [(-9223372036854775808 ≤ ((second + 1 : Nat) : Int) ∧ ((second + 1 : Nat) : Int) ≤ 9223372036854775807)] (by rfl) (by kernel_rfl) ?_ ?_
       ·
        refine ⟨?_, trivial⟩
        ·
         omega
       refine AWO.delete (t := (.int .i64)) (id := 22) (ep := 1) (xs := ((List.set masks1 first (bits .or .i64 (List.getD masks1 first 0) (List.getD masks1 second 0))) : List Int)) (p := ((second : Nat) : Int)) (q := ((second + 1 : Nat) : Int)) del79 (by rfl) (by rfl) (by kernel_rfl) (by kernel_rfl) (by kernel_rfl) (by kernel_rfl) (by kernel_rfl) ?_ ?_
       ·
        show 0 ≤ ((second : Nat) : Int) ∧ ((second : Nat) : Int) < ((second + 1 : Nat) : Int) ∧ ((second + 1 : Nat) : Int) ≤ ((List.length (List.set masks1 first (bits .or .i64 (List.getD masks1 first 0) (List.getD masks1 second 0))) : Nat) : Int)
        simp only [List.length_set]
        omega
       refine AWO.keepU [1, 2, 4, 7, 107] [4, 8, 18, 22] [(107, .arr 22 1)] [(22, .arr 1 (.int .i64) ((List.take second (List.set masks1 first (bits .or .i64 (List.getD masks1 first 0) (List.getD masks1 second 0))) ++ List.drop (second + 1) (List.set masks1 first (bits .or .i64 (List.getD masks1 first 0) (List.getD masks1 second 0)))) : List Int))] (by kernel_rfl) ?_
       refine AWO.runU hC false [] [5] [] [1, 2, 4, 5, 7] [4, 8, 18, 22]
        [(5, .arr 22 1)] []
        [] (by rfl) (by kernel_rfl) ?_ ?_
       ·
        exact trivial
       refine AWO.nil ?_
       refine AW.back (x := (cost1, trees1, masks1)) ((cost1 + least), (List.take second (List.set trees1 first (JoinTree.mk 0 ([(List.getD trees1 first JoinTree.zero), (List.getD trees1 second JoinTree.zero)] : List JoinTree))) ++ List.drop (second + 1) (List.set trees1 first (JoinTree.mk 0 ([(List.getD trees1 first JoinTree.zero), (List.getD trees1 second JoinTree.zero)] : List JoinTree)))), (List.take second (List.set masks1 first (bits .or .i64 (List.getD masks1 first 0) (List.getD masks1 second 0))) ++ List.drop (second + 1) (List.set masks1 first (bits .or .i64 (List.getD masks1 first 0) (List.getD masks1 second 0))))) (by kernel_rfl) ⟨?_, k412q, ?_, e439⟩ ?_
       ·
        show (List.length (List.take second (List.set masks1 first (bits .or .i64 (List.getD masks1 first 0) (List.getD masks1 second 0))) ++ List.drop (second + 1) (List.set masks1 first (bits .or .i64 (List.getD masks1 first 0) (List.getD masks1 second 0)))) = List.length (List.take second (List.set trees1 first (JoinTree.mk 0 ([(List.getD trees1 first JoinTree.zero), (List.getD trees1 second JoinTree.zero)] : List JoinTree))) ++ List.drop (second + 1) (List.set trees1 first (JoinTree.mk 0 ([(List.getD trees1 first JoinTree.zero), (List.getD trees1 second JoinTree.zero)] : List JoinTree)))) ∧ 1 ≤ List.length (List.take second (List.set trees1 first (JoinTree.mk 0 ([(List.getD trees1 first JoinTree.zero), (List.getD trees1 second JoinTree.zero)] : List JoinTree))) ++ List.drop (second + 1) (List.set trees1 first (JoinTree.mk 0 ([(List.getD trees1 first JoinTree.zero), (List.getD trees1 second JoinTree.zero)] : List JoinTree)))) ∧ List.length (List.take second (List.set trees1 first (JoinTree.mk 0 ([(List.getD trees1 first JoinTree.zero), (List.getD trees1 second JoinTree.zero)] : List JoinTree))) ++ List.drop (second + 1) (List.set trees1 first (JoinTree.mk 0 ([(List.getD trees1 first JoinTree.zero), (List.getD trees1 second JoinTree.zero)] : List JoinTree)))) ≤ 5) ∧ ((List.length (List.take second (List.set trees1 first (JoinTree.mk 0 ([(List.getD trees1 first JoinTree.zero), (List.getD trees1 second JoinTree.zero)] : List JoinTree))) ++ List.drop (second + 1) (List.set trees1 first (JoinTree.mk 0 ([(List.getD trees1 first JoinTree.zero), (List.getD trees1 second JoinTree.zero)] : List JoinTree)))) : Nat) : Int) - 5 ≤ (cost1 + least) ∧ (cost1 + least) ≤ 1000000000000000 * (5 - ((List.length (List.take second (List.set trees1 first (JoinTree.mk 0 ([(List.getD trees1 first JoinTree.zero), (List.getD trees1 second JoinTree.zero)] : List JoinTree))) ++ List.drop (second + 1) (List.set trees1 first (JoinTree.mk 0 ([(List.getD trees1 first JoinTree.zero), (List.getD trees1 second JoinTree.zero)] : List JoinTree)))) : Nat) : Int))
        refine ⟨?_, ?_⟩ <;> first | omega | (simp only [lens] at *; omega)
       ·
        show List.length (List.take second (List.set trees1 first (JoinTree.mk 0 ([(List.getD trees1 first JoinTree.zero), (List.getD trees1 second JoinTree.zero)] : List JoinTree))) ++ List.drop (second + 1) (List.set trees1 first (JoinTree.mk 0 ([(List.getD trees1 first JoinTree.zero), (List.getD trees1 second JoinTree.zero)] : List JoinTree)))) < k412q
        simp only [lens]; omega
       ·
        show List.length (List.take second (List.set trees1 first (JoinTree.mk 0 ([(List.getD trees1 first JoinTree.zero), (List.getD trees1 second JoinTree.zero)] : List JoinTree))) ++ List.drop (second + 1) (List.set trees1 first (JoinTree.mk 0 ([(List.getD trees1 first JoinTree.zero), (List.getD trees1 second JoinTree.zero)] : List JoinTree)))) < List.length trees1
        simp only [lens]; omega
     ·
      intro h440
      have h440q : ¬ (1 < ((List.length trees1 : Nat) : Int)) := (of_decide_eq_false h440)
      have e441 := e411.trans (Go.Am.bif_f h440)
      refine AW.kpU [2, 4, 7] [8, 18] [] [] ?_
      refine AW.exit ?_
      refine AW.meet (cost1, trees1) (by kernel_rfl) ⟨?_, e441⟩
      show (1 ≤ List.length trees1 ∧ List.length trees1 ≤ 5) ∧ ((List.length trees1 : Nat) : Int) - 5 ≤ cost1 ∧ cost1 ≤ 1000000000000000 * (5 - ((List.length trees1 : Nat) : Int))
      omega
   ·
    intro x hR
    obtain ⟨cost1, trees1⟩ := x
    obtain ⟨hJ1, e442⟩ := hR
    replace hJ1 : (1 ≤ List.length trees1 ∧ List.length trees1 ≤ 5) ∧ ((List.length trees1 : Nat) : Int) - 5 ≤ cost1 ∧ cost1 ≤ 1000000000000000 * (5 - ((List.length trees1 : Nat) : Int)) := hJ1
    have e443 := e25.trans (Go.Am.then_eq e442)
    refine AW.seq (AW.r0U hC [2, 3] [8] [(3, .int .i64 cost1)] [(8, .box 1 [.int .i64 (JoinTree.Leaf (List.getD trees1 0 JoinTree.zero)), .data (.slice (.named 3)) ((JoinTree.Kids (List.getD trees1 0 JoinTree.zero)) : List JoinTree)])] [(0 ≤ (0 : Int) ∧ (0 : Int) < ((List.length trees1 : Nat) : Int))] ?_ ?_)
    ·
     refine ⟨?_, trivial⟩
     ·
      omega
    exact AW.ret (AW.retE (β := JoinTree × Int) (fun v => [⟨(.named 3), v.1⟩, ⟨(.int .i64), v.2⟩]) (fun v => []) (v := ((JoinTree.mk (JoinTree.Leaf (List.getD trees1 0 JoinTree.zero)) (JoinTree.Kids (List.getD trees1 0 JoinTree.zero))), cost1)) e443 (by kernel_rfl) rfl rfl)

end
end Go.Proofs.Ytgbapklfgjnggaa
