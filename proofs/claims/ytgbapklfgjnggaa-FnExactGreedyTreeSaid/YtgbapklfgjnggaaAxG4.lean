/-
  A part of the proof of this claim (AxG4): what functions of the program compute, and plain facts of that. No conditions.
-/
import Derived.Test.YtgbapklfgjnggaaAxG2
set_option linter.all false
namespace Go.Proofs.Ytgbapklfgjnggaa
open Go Go.Am
open Go.Am.AW (seq r1U ret kpU cdE r0U r1 meet block bk exit lpB d0U)
open List (length getD set take drop)
noncomputable section

def GreedyTree_l0 (g : Graph) : Nat → Nat → (List JoinTree) → (List Int) → (List JoinTree) × (List Int)
 | 0, i, trees, masks => (trees, masks)
 | k + 1, i, trees, masks => (bif (decide ((i : Int) < (length (Graph.Rows g) : Int))) then (GreedyTree_l0 g k (i + 1) (trees ++ ([(JoinTree.mk (i : Int) ([] : List JoinTree))] : List JoinTree)) (masks ++ ([((1 : Int) * 2 ^ i)] : List Int))) else (trees, masks))

def GreedyTree_l3 (g : Graph) (trees1 : List JoinTree) (masks1 : List Int) (i : Nat) : Nat → Nat → Nat → Nat → Nat × Nat
 | 0, a1, b1, k1 => (a1, b1)
 | k + 1, a1, b1, k1 => (bif (decide ((k1 : Int) < (length trees1 : Int))) then (bif (decide ((subsetSize g (bits .or .i64 (getD masks1 i 0) (getD masks1 k1 0))) < (subsetSize g (bits .or .i64 (getD masks1 a1 0) (getD masks1 b1 0))))) then (GreedyTree_l3 g trees1 masks1 i k i k1 (k1 + 1)) else (GreedyTree_l3 g trees1 masks1 i k a1 b1 (k1 + 1))) else (a1, b1))

def GreedyTree_l2 (g : Graph) (trees1 : List JoinTree) (masks1 : List Int) : Nat → Nat → Nat → Nat → Nat × Nat
 | 0, a, b, i => (a, b)
 | k + 1, a, b, i => (bif (decide ((i : Int) < (length trees1 : Int))) then (andThen (GreedyTree_l3 g trees1 masks1 i ((length trees1) - (i + 1) + 1) a b (i + 1)) (fun z => (fun (a1 : Nat) (b1 : Nat) => (GreedyTree_l2 g trees1 masks1 k a1 b1 (i + 1))) z.1 z.2)) else (a, b))

def GreedyTree_l1 (g : Graph) : Nat → (List JoinTree) → (List Int) → (List JoinTree)
 | 0, trees1, masks1 => trees1
 | k + 1, trees1, masks1 => (bif (decide (1 < (length trees1 : Int))) then (andThen (GreedyTree_l2 g trees1 masks1 ((length trees1) - 0 + 1) 0 1 0) (fun z => (fun (a : Nat) (b : Nat) => (GreedyTree_l1 g k (take b (set trees1 a (JoinTree.mk 0 ([(getD trees1 a JoinTree.zero), (getD trees1 b JoinTree.zero)] : List JoinTree))) ++ (take (length (set trees1 a (JoinTree.mk 0 ([(getD trees1 a JoinTree.zero), (getD trees1 b JoinTree.zero)] : List JoinTree))) - (b + 1)) (drop (b + 1) (set trees1 a (JoinTree.mk 0 ([(getD trees1 a JoinTree.zero), (getD trees1 b JoinTree.zero)] : List JoinTree)))))) (take b (set masks1 a (bits .or .i64 (getD masks1 a 0) (getD masks1 b 0))) ++ (take (length (set masks1 a (bits .or .i64 (getD masks1 a 0) (getD masks1 b 0))) - (b + 1)) (drop (b + 1) (set masks1 a (bits .or .i64 (getD masks1 a 0) (getD masks1 b 0)))))))) z.1 z.2)) else trees1)

def GreedyTree (g : Graph) : JoinTree × Int := (bif (!(validGraph g)) then ((JoinTree.mk 0 ([] : List JoinTree)), (-1)) else (andThen (GreedyTree_l0 g ((length (Graph.Rows g)) - 0 + 1) 0 ([] : List JoinTree) ([] : List Int)) (fun z => (fun (trees : List JoinTree) (masks : List Int) => (andThen (GreedyTree_l1 g (length trees + 1) trees masks) (fun z => (fun (trees1 : List JoinTree) => ((JoinTree.mk (JoinTree.Leaf (getD trees1 0 JoinTree.zero)) (JoinTree.Kids (getD trees1 0 JoinTree.zero))), (treeCost g (getD trees1 0 JoinTree.zero)))) z))) z.1 z.2)))

def GreedyTree_sp : FnSpec := mkSpec [.val (.named 1)] [.val (.named 3), .val (.int .i64)] (fun (g : Graph) => True) (fun (g : Graph) => [⟨(.named 3), ((GreedyTree g).1)⟩, ⟨(.int .i64), ((GreedyTree g).2)⟩])

theorem GreedyTree_ok : FnOK Try.prog 46 GreedyTree_sp := by
 have hC : CtxOK Try.prog (mkCtx tyL [(55, validGraph_sp), (57, subsetSize_sp), (69, treeCost_sp)]) := CtxOK.cons validGraph_ok (CtxOK.cons subsetSize_ok (CtxOK.cons treeCost_ok (CtxOK.nil tyOK))); have hM : Try.prog.follows .mixedOrders = true := Try.checked.mixed; refine FnOK.of_body Try.func46 (by kernel_rfl) rfl (C := (mkCtx tyL [(55, validGraph_sp), (57, subsetSize_sp), (69, treeCost_sp)])) hC.ty (by kernel_rfl) ?_; intro (g : Graph) hwf hpre E; have hpre : True := hpre; have e0 : GreedyTree g = GreedyTree g := rfl; refine seq (r1 hC [1, 2] [4, 8] ⟨[(1, .ref 4 1 0), (2, .ref 8 1 0)], [(4, .box 1 [.data (.slice (.int .i64)) ((Graph.Rows g) : List Int), .data (.slice (.named 0)) ((Graph.Edges g) : List Edge)]), (8, .box 1 [.int .i64 0, .nilsl])]⟩ ?_); refine seq (seq (r0U hC [1, 2, 13] [4, 8] [(13, .bool (!(validGraph g)))] [] [(True)] ?_ ?_))
 ·
  exact ⟨trivial, trivial⟩
 refine cdE e0 ?_ ?_
 · intro h1q e2; refine seq (r1U hC [2, 3] [8] [(3, .int .i64 (-1))] [] ?_); exact ret (AW.retE (β := JoinTree × Int) (fun v => [⟨(.named 3), v.1⟩, ⟨(.int .i64), v.2⟩]) (fun v => []) (v := ((JoinTree.mk 0 ([] : List JoinTree)), (-1))) e2 (by kernel_rfl) rfl rfl)
 ·
  intro h3q e4; refine kpU [1, 2] [4, 8] [] [] ?_; refine AW.skip (seq ?_); have hV := validGraph_iff.1 h3q; have hV5 := hV.n5; have hV1 := hV.n1; refine r1U hC [1, 2, 4] [4, 8, 60] [(4, .arr 60 1)] [(60, .arr 1 (.named 3) (([] : List JoinTree) : List JoinTree))] ?_; refine seq (r1U hC [1, 2, 4, 5] [4, 8, 60, 64] [(5, .arr 64 1)] [(64, .arr 1 (.int .i64) (([] : List Int) : List Int))] ?_); refine seq (seq (r1U hC [1, 2, 4, 5, 6] [4, 8, 60, 64] [(6, .int .i64 0)] [] ?_)); refine lpB (ζ := (List JoinTree) × (List Int)) (fun x => ⟨[(1, .ref 4 1 0), (2, .ref 8 1 0), (4, .arr 60 1), (5, .arr 64 1)], [(4, .box 1 [.data (.slice (.int .i64)) ((Graph.Rows g) : List Int), .data (.slice (.named 0)) ((Graph.Edges g) : List Edge)]), (8, .box 1 [.int .i64 0, .nilsl]), (60, .arr 1 (.named 3) (x.1 : List JoinTree)), (64, .arr 1 (.int .i64) (x.2 : List Int))]⟩) (fun x => FT (length (Graph.Rows g) : Int) x.1 ∧ x.2 = mks (length (Graph.Rows g) : Int) x.1 ∧ length x.1 = length (Graph.Rows g)) (fun x => x) (α := Nat × (List JoinTree) × (List Int)) (fun x => ⟨[(1, .ref 4 1 0), (2, .ref 8 1 0), (4, .arr 60 1), (5, .arr 64 1), (6, .int .i64 ((x.1 : Nat) : Int))], [(4, .box 1 [.data (.slice (.int .i64)) ((Graph.Rows g) : List Int), .data (.slice (.named 0)) ((Graph.Edges g) : List Edge)]), (8, .box 1 [.int .i64 0, .nilsl]), (60, .arr 1 (.named 3) (x.2.1 : List JoinTree)), (64, .arr 1 (.int .i64) (x.2.2 : List Int))]⟩) (fun x => (x.2.1 = lfs x.1 ∧ x.2.2 = (List.range x.1).map (fun j => (1 : Int) * 2 ^ j)) ∧ x.1 ≤ length (Graph.Rows g) ∧ length x.2.1 = x.1 ∧ length x.2.2 = x.1) (fun x => (length (Graph.Rows g)) - x.1) (fun k x => GreedyTree_l0 g k x.1 x.2.1 x.2.2) (0, ([] : List JoinTree), ([] : List Int)) (by kernel_rfl) ?_ ?_ ?_
  · exact ⟨⟨rfl, rfl⟩, Nat.zero_le _, rfl, rfl⟩
  ·
   intro x k19q hI0 hk17 e18; obtain ⟨i, trees, masks⟩ := x; dsimp only at e18; replace hI0 : (trees = lfs i ∧ masks = (List.range i).map (fun j => (1 : Int) * 2 ^ j)) ∧ i ≤ length (Graph.Rows g) ∧ length trees = i ∧ length masks = i := hI0; refine seq (seq (r1U hC [1, 2, 4, 5, 6, 21] [4, 8, 60, 64] [(21, .bool (decide ((i : Int) < (length (Graph.Rows g) : Int))))] [] ?_)); refine cdE e18 ?_ ?_
   ·
    intro h20q e21; refine kpU [1, 2, 4, 5, 6] [4, 8, 60, 64] [] [] ?_; refine AW.skip (seq (block (seq (r0U hC [1, 2, 4, 5, 6] [4, 8, 60, 64] [] [(60, .arr 1 (.named 3) ((trees ++ ([(JoinTree.mk (i : Int) ([] : List JoinTree))] : List JoinTree)) : List JoinTree))] [((length trees : Int) + ((length ([(JoinTree.mk (i : Int) ([] : List JoinTree))] : List JoinTree) : Nat) : Int) ≤ 4294967296)] ?_ ?_))))
    ·
     exact ⟨(by simp only [List.length_append, List.length_cons, List.length_nil, List.length_take, List.length_drop, List.length_set]; omega), trivial⟩
    refine r0U hC [1, 2, 4, 5, 6] [4, 8, 60, 64] [] [(64, .arr 1 (.int .i64) ((masks ++ ([((1 : Int) * 2 ^ i)] : List Int)) : List Int))] [(0 ≤ (i : Int) ∧ (i : Int) ≤ 64), (-9223372036854775808 ≤ ((1 : Int) * 2 ^ i) ∧ ((1 : Int) * 2 ^ i) ≤ 9223372036854775807), ((length masks : Int) + (length ([((1 : Int) * 2 ^ i)] : List Int) : Int) ≤ 4294967296)] ?_ ?_
    ·
     exact ⟨(by omega), (by have := pow2 (n := i) (by omega); omega), (by simp only [List.length_append, List.length_cons, List.length_nil, List.length_take, List.length_drop, List.length_set]; omega), trivial⟩
    refine r0U hC [1, 2, 4, 5, 6] [4, 8, 60, 64] [(6, .int .i64 ((i + 1 : Nat) : Int))] [] [(-9223372036854775808 ≤ ((i + 1 : Nat) : Int) ∧ ((i + 1 : Nat) : Int) ≤ 9223372036854775807)] ?_ ?_
    ·
     exact ⟨(by omega), trivial⟩
    refine bk (i + 1, (trees ++ ([(JoinTree.mk (i : Int) ([] : List JoinTree))] : List JoinTree)), (masks ++ ([((1 : Int) * 2 ^ i)] : List Int))) e21 hk17 ?_ ?_
    ·
     rw [hI0.1.1, hI0.1.2, lfs_succ, pws_succ]; refine ⟨⟨rfl, rfl⟩, by omega, ?_, ?_⟩
     · rw [List.length_append, lfs_len]; rfl
     · simp
    · omega
   · intro h22q e23; refine kpU [1, 2, 4, 5] [4, 8, 60, 64] [] [] ?_; refine exit ?_; refine meet (trees, masks) (by kernel_rfl) ⟨?_, e23⟩; obtain ⟨⟨rfl, rfl⟩, hle, -, -⟩ := hI0; (have hi : i = length (Graph.Rows g) := by omega); subst hi; have hf := lfs_ft hV5; exact ⟨hf.1, hf.2.symm, lfs_len _⟩
  ·
   intro x hJ0 e24; obtain ⟨trees, masks⟩ := x; replace hJ0 : FT (length (Graph.Rows g) : Int) trees ∧ masks = mks (length (Graph.Rows g) : Int) trees ∧ length trees = length (Graph.Rows g) := hJ0; have e25 := e4.trans (then_eq e24); dsimp only at e25; refine seq (lpB (ζ := (List JoinTree)) (fun x => ⟨[(1, .ref 4 1 0), (2, .ref 8 1 0), (4, .arr 60 1)], [(4, .box 1 [.data (.slice (.int .i64)) ((Graph.Rows g) : List Int), .data (.slice (.named 0)) ((Graph.Edges g) : List Edge)]), (8, .box 1 [.int .i64 0, .nilsl]), (60, .arr 1 (.named 3) (x : List JoinTree))]⟩) (fun x => FT (length (Graph.Rows g) : Int) x ∧ 1 ≤ length x ∧ length x ≤ 5) (fun x => x) (α := (List JoinTree) × (List Int)) (fun x => ⟨[(1, .ref 4 1 0), (2, .ref 8 1 0), (4, .arr 60 1), (5, .arr 64 1)], [(4, .box 1 [.data (.slice (.int .i64)) ((Graph.Rows g) : List Int), .data (.slice (.named 0)) ((Graph.Edges g) : List Edge)]), (8, .box 1 [.int .i64 0, .nilsl]), (60, .arr 1 (.named 3) (x.1 : List JoinTree)), (64, .arr 1 (.int .i64) (x.2 : List Int))]⟩) (fun x => (FT (length (Graph.Rows g) : Int) x.1 ∧ x.2 = mks (length (Graph.Rows g) : Int) x.1) ∧ 1 ≤ length x.1 ∧ length x.1 ≤ 5) (fun x => length x.1) (fun k x => GreedyTree_l1 g k x.1 x.2) (trees, masks) (by kernel_rfl) ?_ ?_ ?_)
   · dsimp only; exact ⟨⟨hJ0.1, hJ0.2.1⟩, by have := hJ0.2.2; omega, by have := hJ0.2.2; omega⟩
   ·
    intro x k287q hI1 hk285 e286; obtain ⟨trees1, masks1⟩ := x; dsimp only at e286; replace hI1 : (FT (length (Graph.Rows g) : Int) trees1 ∧ masks1 = mks (length (Graph.Rows g) : Int) trees1) ∧ 1 ≤ length trees1 ∧ length trees1 ≤ 5 := hI1; (have hm1 : masks1.length = trees1.length := by rw [hI1.1.2]; exact mks_len _ _); refine seq (seq (r1U hC [1, 2, 4, 5, 36] [4, 8, 60, 64] [(36, .bool (decide (1 < (length trees1 : Int))))] [] ?_)); refine cdE e286 ?_ ?_
    ·
     intro h288q e289; refine kpU [1, 2, 4, 5] [4, 8, 60, 64] [] [] ?_; refine AW.skip (block (seq (r1U hC [1, 2, 4, 5, 7] [4, 8, 60, 64] [(7, .int .i64 0)] [] ?_))); refine seq (r1U hC [1, 2, 4, 5, 7, 8] [4, 8, 60, 64] [(8, .int .i64 1)] [] ?_); refine seq (seq (r1U hC [1, 2, 4, 5, 7, 8, 9] [4, 8, 60, 64] [(9, .int .i64 0)] [] ?_)); refine lpB (ζ := Nat × Nat) (fun x => ⟨[(1, .ref 4 1 0), (2, .ref 8 1 0), (4, .arr 60 1), (5, .arr 64 1), (7, .int .i64 ((x.1 : Nat) : Int)), (8, .int .i64 ((x.2 : Nat) : Int))], [(4, .box 1 [.data (.slice (.int .i64)) ((Graph.Rows g) : List Int), .data (.slice (.named 0)) ((Graph.Edges g) : List Edge)]), (8, .box 1 [.int .i64 0, .nilsl]), (60, .arr 1 (.named 3) (trees1 : List JoinTree)), (64, .arr 1 (.int .i64) (masks1 : List Int))]⟩) (fun x => x.1 < x.2 ∧ x.2 < length trees1) (fun x => x) (α := Nat × Nat × Nat) (fun x => ⟨[(1, .ref 4 1 0), (2, .ref 8 1 0), (4, .arr 60 1), (5, .arr 64 1), (7, .int .i64 ((x.1 : Nat) : Int)), (8, .int .i64 ((x.2.1 : Nat) : Int)), (9, .int .i64 ((x.2.2 : Nat) : Int))], [(4, .box 1 [.data (.slice (.int .i64)) ((Graph.Rows g) : List Int), .data (.slice (.named 0)) ((Graph.Edges g) : List Edge)]), (8, .box 1 [.int .i64 0, .nilsl]), (60, .arr 1 (.named 3) (trees1 : List JoinTree)), (64, .arr 1 (.int .i64) (masks1 : List Int))]⟩) (fun x => x.1 < x.2.1 ∧ x.2.1 < length trees1) (fun x => (length trees1) - x.2.2) (fun k x => GreedyTree_l2 g trees1 masks1 k x.1 x.2.1 x.2.2) (0, 1, 0) (by kernel_rfl) ?_ ?_ ?_
     · exact (show 0 < 1 ∧ 1 < length trees1 by omega)
     ·
      intro x k292q hI2 hk290 e291; obtain ⟨a, b, i⟩ := x; dsimp only at e291; replace hI2 : a < b ∧ b < length trees1 := hI2; refine seq (seq (r1U hC [1, 2, 4, 5, 7, 8, 9, 40] [4, 8, 60, 64] [(40, .bool (decide ((i : Int) < (length trees1 : Int))))] [] ?_)); refine cdE e291 ?_ ?_
      ·
       intro h293q e294; refine kpU [1, 2, 4, 5, 7, 8, 9] [4, 8, 60, 64] [] [] ?_; refine AW.skip (seq (block (seq (r0U hC [1, 2, 4, 5, 7, 8, 9, 10] [4, 8, 60, 64] [(10, .int .i64 ((i + 1 : Nat) : Int))] [] [(-9223372036854775808 ≤ ((i + 1 : Nat) : Int) ∧ ((i + 1 : Nat) : Int) ≤ 9223372036854775807)] ?_ ?_))))
       ·
        exact ⟨(by omega), trivial⟩
       refine lpB (ζ := Nat × Nat) (fun x => ⟨[(1, .ref 4 1 0), (2, .ref 8 1 0), (4, .arr 60 1), (5, .arr 64 1), (7, .int .i64 ((x.1 : Nat) : Int)), (8, .int .i64 ((x.2 : Nat) : Int)), (9, .int .i64 (i : Int))], [(4, .box 1 [.data (.slice (.int .i64)) ((Graph.Rows g) : List Int), .data (.slice (.named 0)) ((Graph.Edges g) : List Edge)]), (8, .box 1 [.int .i64 0, .nilsl]), (60, .arr 1 (.named 3) (trees1 : List JoinTree)), (64, .arr 1 (.int .i64) (masks1 : List Int))]⟩) (fun x => (x.1 < x.2 ∧ x.2 < length trees1)) (fun x => x) (α := Nat × Nat × Nat) (fun x => ⟨[(1, .ref 4 1 0), (2, .ref 8 1 0), (4, .arr 60 1), (5, .arr 64 1), (7, .int .i64 ((x.1 : Nat) : Int)), (8, .int .i64 ((x.2.1 : Nat) : Int)), (9, .int .i64 (i : Int)), (10, .int .i64 ((x.2.2 : Nat) : Int))], [(4, .box 1 [.data (.slice (.int .i64)) ((Graph.Rows g) : List Int), .data (.slice (.named 0)) ((Graph.Edges g) : List Edge)]), (8, .box 1 [.int .i64 0, .nilsl]), (60, .arr 1 (.named 3) (trees1 : List JoinTree)), (64, .arr 1 (.int .i64) (masks1 : List Int))]⟩) (fun x => (x.1 < x.2.1 ∧ x.2.1 < length trees1) ∧ i < x.2.2) (fun x => (length trees1) - x.2.2) (fun k x => GreedyTree_l3 g trees1 masks1 i k x.1 x.2.1 x.2.2) (a, b, i + 1) (by kernel_rfl) ?_ ?_ ?_
       · refine ⟨?_, ?_⟩ <;> first | omega | (simp; done)
       ·
        intro x k297q hI3 hk295 e296; obtain ⟨a1, b1, k1⟩ := x; dsimp only at e296; replace hI3 : (a1 < b1 ∧ b1 < length trees1) ∧ i < k1 := hI3; refine seq (seq (r1U hC [1, 2, 4, 5, 7, 8, 9, 10, 48] [4, 8, 60, 64] [(48, .bool (decide ((k1 : Int) < (length trees1 : Int))))] [] ?_)); refine cdE e296 ?_ ?_
        ·
         intro h298q e299; refine kpU [1, 2, 4, 5, 7, 8, 9, 10] [4, 8, 60, 64] [] [] ?_; refine AW.skip (seq (block (seq (d0U hC hM [1, 2, 4, 5, 7, 8, 9, 10, 73] [4, 8, 60, 64] [(73, .bool (decide ((subsetSize g (bits .or .i64 (getD masks1 i 0) (getD masks1 k1 0))) < (subsetSize g (bits .or .i64 (getD masks1 a1 0) (getD masks1 b1 0))))))] [] [(0 ≤ (i : Int) ∧ (i : Int) < (length masks1 : Int)), (0 ≤ (k1 : Int) ∧ (k1 : Int) < (length masks1 : Int)), (VG g ∧ 0 ≤ (bits .or .i64 (getD masks1 i 0) (getD masks1 k1 0))), (0 ≤ (a1 : Int) ∧ (a1 : Int) < (length masks1 : Int)), (0 ≤ (b1 : Int) ∧ (b1 : Int) < (length masks1 : Int)), (VG g ∧ 0 ≤ (bits .or .i64 (getD masks1 a1 0) (getD masks1 b1 0)))] ?_ ?_))))
         ·
          exact ⟨(by omega), (by omega), (by refine ⟨hV, ?_⟩; rw [hI1.1.2]; exact (mks_or (by omega) _ (by omega) (by omega)).1), (by omega), (by omega), (by refine ⟨hV, ?_⟩; rw [hI1.1.2]; exact (mks_or (by omega) _ (by omega) (by omega)).1), trivial⟩
         refine cdE e299 ?_ ?_
         ·
          intro h300q e301; refine seq (r1U hC [1, 2, 4, 5, 7, 9, 10] [4, 8, 60, 64] [(7, .int .i64 (i : Int))] [] ?_); refine r1U hC [1, 2, 4, 5, 7, 8, 9, 10] [4, 8, 60, 64] [(8, .int .i64 (k1 : Int))] [] ?_; refine r0U hC [1, 2, 4, 5, 7, 8, 9, 10] [4, 8, 60, 64] [(10, .int .i64 ((k1 + 1 : Nat) : Int))] [] [(-9223372036854775808 ≤ ((k1 + 1 : Nat) : Int) ∧ ((k1 + 1 : Nat) : Int) ≤ 9223372036854775807)] ?_ ?_
          ·
           exact ⟨(by omega), trivial⟩
          refine bk (i, k1, k1 + 1) e301 hk295 ?_ ?_
          · refine ⟨?_, ?_⟩ <;> first | omega | (simp only [lens] at *; omega)
          · simp only [lens]; omega
         ·
          intro h302q e303; refine kpU [1, 2, 4, 5, 7, 8, 9, 10] [4, 8, 60, 64] [] [] ?_; refine AW.skip (r0U hC [1, 2, 4, 5, 7, 8, 9, 10] [4, 8, 60, 64] [(10, .int .i64 ((k1 + 1 : Nat) : Int))] [] [(-9223372036854775808 ≤ ((k1 + 1 : Nat) : Int) ∧ ((k1 + 1 : Nat) : Int) ≤ 9223372036854775807)] ?_ ?_)
          ·
           exact ⟨(by omega), trivial⟩
          refine bk (a1, b1, k1 + 1) e303 hk295 ?_ ?_
          · refine ⟨?_, ?_⟩ <;> first | omega | (simp only [lens] at *; omega)
          · simp only [lens]; omega
        · intro h304q e305; refine kpU [1, 2, 4, 5, 7, 8, 9] [4, 8, 60, 64] [] [] ?_; refine exit ?_; refine meet (a1, b1) (by kernel_rfl) ⟨?_, e305⟩; omega
       ·
        intro x hJ3 e306; obtain ⟨a1, b1⟩ := x; replace hJ3 : (a1 < b1 ∧ b1 < length trees1) := hJ3; have e307 := e294.trans (then_eq e306); dsimp only at e307; refine r0U hC [1, 2, 4, 5, 7, 8, 9] [4, 8, 60, 64] [(9, .int .i64 ((i + 1 : Nat) : Int))] [] [(-9223372036854775808 ≤ ((i + 1 : Nat) : Int) ∧ ((i + 1 : Nat) : Int) ≤ 9223372036854775807)] ?_ ?_
        ·
         exact ⟨(by omega), trivial⟩
        refine bk (a1, b1, i + 1) e307 hk290 ?_ ?_
        · assumption
        · simp only [lens]; omega
      · intro h308q e309; refine kpU [1, 2, 4, 5, 7, 8] [4, 8, 60, 64] [] [] ?_; refine exit ?_; refine meet (a, b) (by kernel_rfl) ⟨?_, e309⟩; assumption
     ·
      intro x hJ2 e310; obtain ⟨a, b⟩ := x; replace hJ2 : a < b ∧ b < length trees1 := hJ2; have e311 := e289.trans (then_eq e310); dsimp only at e311; refine seq (d0U hC hM [1, 2, 4, 5, 7, 8] [4, 8, 60, 64] [] [(60, .arr 1 (.named 3) ((set trees1 a (JoinTree.mk 0 ([(getD trees1 a JoinTree.zero), (getD trees1 b JoinTree.zero)] : List JoinTree))) : List JoinTree))] [(0 ≤ (a : Int) ∧ (a : Int) < (length trees1 : Int)), (0 ≤ (b : Int) ∧ (b : Int) < (length trees1 : Int)), (0 ≤ (a : Int) ∧ (a : Int) < (length trees1 : Int))] ?_ ?_)
      ·
       exact ⟨(by omega), (by omega), (by omega), trivial⟩
      refine seq (d0U hC hM [1, 2, 4, 5, 8] [4, 8, 60, 64] [] [(64, .arr 1 (.int .i64) ((set masks1 a (bits .or .i64 (getD masks1 a 0) (getD masks1 b 0))) : List Int))] [(0 ≤ (a : Int) ∧ (a : Int) < (length masks1 : Int)), (0 ≤ (b : Int) ∧ (b : Int) < (length masks1 : Int)), (0 ≤ (a : Int) ∧ (a : Int) < (length masks1 : Int))] ?_ ?_)
      ·
       exact ⟨(by omega), (by omega), (by omega), trivial⟩
      refine seq (d0U hC hM [1, 2, 4, 5, 8] [4, 8, 60, 64] [] [(60, .arr 1 (.named 3) ((take b (set trees1 a (JoinTree.mk 0 ([(getD trees1 a JoinTree.zero), (getD trees1 b JoinTree.zero)] : List JoinTree))) ++ (take (length (set trees1 a (JoinTree.mk 0 ([(getD trees1 a JoinTree.zero), (getD trees1 b JoinTree.zero)] : List JoinTree))) - (b + 1)) (drop (b + 1) (set trees1 a (JoinTree.mk 0 ([(getD trees1 a JoinTree.zero), (getD trees1 b JoinTree.zero)] : List JoinTree)))))) : List JoinTree))] [(0 ≤ (b : Int) ∧ (b : Int) ≤ (length (set trees1 a (JoinTree.mk 0 ([(getD trees1 a JoinTree.zero), (getD trees1 b JoinTree.zero)] : List JoinTree))) : Int)), (-9223372036854775808 ≤ ((b + 1 : Nat) : Int) ∧ ((b + 1 : Nat) : Int) ≤ 9223372036854775807), (0 ≤ ((b + 1 : Nat) : Int) ∧ ((b + 1 : Nat) : Int) ≤ (length (set trees1 a (JoinTree.mk 0 ([(getD trees1 a JoinTree.zero), (getD trees1 b JoinTree.zero)] : List JoinTree))) : Int)), ((b : Int) + (length (take (length (set trees1 a (JoinTree.mk 0 ([(getD trees1 a JoinTree.zero), (getD trees1 b JoinTree.zero)] : List JoinTree))) - (b + 1)) (drop (b + 1) (set trees1 a (JoinTree.mk 0 ([(getD trees1 a JoinTree.zero), (getD trees1 b JoinTree.zero)] : List JoinTree))))) : Int) ≤ 4294967296)] ?_ ?_)
      ·
       exact ⟨(by (simp only [lens] at *; omega)), (by omega), (by (simp only [lens] at *; omega)), (by simp only [List.length_append, List.length_cons, List.length_nil, List.length_take, List.length_drop, List.length_set]; omega), trivial⟩
      refine d0U hC hM [1, 2, 4, 5] [4, 8, 60, 64] [] [(64, .arr 1 (.int .i64) ((take b (set masks1 a (bits .or .i64 (getD masks1 a 0) (getD masks1 b 0))) ++ (take (length (set masks1 a (bits .or .i64 (getD masks1 a 0) (getD masks1 b 0))) - (b + 1)) (drop (b + 1) (set masks1 a (bits .or .i64 (getD masks1 a 0) (getD masks1 b 0)))))) : List Int))] [(0 ≤ (b : Int) ∧ (b : Int) ≤ (length (set masks1 a (bits .or .i64 (getD masks1 a 0) (getD masks1 b 0))) : Int)), (-9223372036854775808 ≤ ((b + 1 : Nat) : Int) ∧ ((b + 1 : Nat) : Int) ≤ 9223372036854775807), (0 ≤ ((b + 1 : Nat) : Int) ∧ ((b + 1 : Nat) : Int) ≤ (length (set masks1 a (bits .or .i64 (getD masks1 a 0) (getD masks1 b 0))) : Int)), ((b : Int) + (length (take (length (set masks1 a (bits .or .i64 (getD masks1 a 0) (getD masks1 b 0))) - (b + 1)) (drop (b + 1) (set masks1 a (bits .or .i64 (getD masks1 a 0) (getD masks1 b 0))))) : Int) ≤ 4294967296)] ?_ ?_
      ·
       exact ⟨(by (simp only [lens] at *; omega)), (by omega), (by (simp only [lens] at *; omega)), (by simp only [List.length_append, List.length_cons, List.length_nil, List.length_take, List.length_drop, List.length_set]; omega), trivial⟩
      refine bk ((take b (set trees1 a (JoinTree.mk 0 ([(getD trees1 a JoinTree.zero), (getD trees1 b JoinTree.zero)] : List JoinTree))) ++ (take (length (set trees1 a (JoinTree.mk 0 ([(getD trees1 a JoinTree.zero), (getD trees1 b JoinTree.zero)] : List JoinTree))) - (b + 1)) (drop (b + 1) (set trees1 a (JoinTree.mk 0 ([(getD trees1 a JoinTree.zero), (getD trees1 b JoinTree.zero)] : List JoinTree)))))), (take b (set masks1 a (bits .or .i64 (getD masks1 a 0) (getD masks1 b 0))) ++ (take (length (set masks1 a (bits .or .i64 (getD masks1 a 0) (getD masks1 b 0))) - (b + 1)) (drop (b + 1) (set masks1 a (bits .or .i64 (getD masks1 a 0) (getD masks1 b 0))))))) e311 hk285 ?_ ?_
      · dsimp only; rw [jn_take, jn_take]; have hj := FT.jn (n := (length (Graph.Rows g) : Int)) (by omega) hI1.1.1 hJ2.1 hJ2.2; refine ⟨⟨hj.1, by rw [hI1.1.2]; exact hj.2.symm⟩, ?_⟩; have hl := jn_len (ts := trees1) (a := a) hJ2.2 (two (getD trees1 a JoinTree.zero) (getD trees1 b JoinTree.zero)); unfold jn two at hl; omega
      · dsimp only; rw [jn_take]; have hl := jn_len (ts := trees1) (a := a) hJ2.2 (two (getD trees1 a JoinTree.zero) (getD trees1 b JoinTree.zero)); unfold jn two at hl; omega
    · intro h312q e313; refine kpU [1, 2, 4] [4, 8, 60] [] [] ?_; refine exit ?_; refine meet trees1 (by kernel_rfl) ⟨?_, e313⟩; exact ⟨hI1.1.1, hI1.2.1, hI1.2.2⟩
   ·
    intro trees1 hJ1 e314; have e315 := e25.trans (then_eq e314); refine seq (d0U hC hM [2, 3] [8] [(3, .int .i64 (treeCost g (getD trees1 0 JoinTree.zero)))] [(8, .box 1 [.int .i64 (JoinTree.Leaf (getD trees1 0 JoinTree.zero)), .data (.slice (.named 3)) ((JoinTree.Kids (getD trees1 0 JoinTree.zero)) : List JoinTree)])] [(0 ≤ (0 : Int) ∧ (0 : Int) < (length trees1 : Int)), (0 ≤ (0 : Int) ∧ (0 : Int) < (length trees1 : Int)), (VG g ∧ treeMask (getD trees1 0 JoinTree.zero) (length g.Rows : Int) ≠ 0)] ?_ ?_)
    ·
     exact ⟨(by omega), (by omega), (⟨hV, hJ1.1.ne _ (getD_mem trees1 0 JoinTree.zero (by omega))⟩), trivial⟩
    exact ret (AW.retE (β := JoinTree × Int) (fun v => [⟨(.named 3), v.1⟩, ⟨(.int .i64), v.2⟩]) (fun v => []) (v := ((JoinTree.mk (JoinTree.Leaf (getD trees1 0 JoinTree.zero)) (JoinTree.Kids (getD trees1 0 JoinTree.zero))), (treeCost g (getD trees1 0 JoinTree.zero)))) e315 (by kernel_rfl) rfl rfl)

end
end Go.Proofs.Ytgbapklfgjnggaa
