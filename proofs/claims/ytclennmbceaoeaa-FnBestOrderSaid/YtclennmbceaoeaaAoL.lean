/-
  A part of the proof of this claim (AoL): what functions of the program compute, and plain facts of that. No conditions.
-/
import Derived.Test.YtclennmbceaoeaaAo2
import Derived.Test.YtclennmbceaoeaaAnB
import Derived.Test.YtclennmbceaoeaaAnL
set_option linter.all false
namespace Go.Proofs.Ytclennmbceaoeaa
open Go Go.Am
noncomputable section

def subsetSize_l0 (g : Graph) (mask : Int) : Nat → Int → Nat → Int
 | 0, n1, i => n1
 | k + 1, n1, i => (bif (decide (((i : Nat) : Int) < ((List.length (Graph.Rows g) : Nat) : Int))) then (bif (has mask ((i : Nat) : Int)) then (subsetSize_l0 g mask k (n1 * (List.getD (Graph.Rows g) i 0)) (i + 1)) else (subsetSize_l0 g mask k n1 (i + 1))) else n1)

def subsetSize_l1 (g : Graph) (mask : Int) : Nat → Int → Nat → Int
 | 0, n, i => n
 | k + 1, n, i => (bif (decide (((i : Nat) : Int) < ((List.length (Graph.Edges g) : Nat) : Int))) then (bif (bif (has mask (Edge.A (List.getD (Graph.Edges g) i Edge.zero))) then (has mask (Edge.B (List.getD (Graph.Edges g) i Edge.zero))) else false) then (subsetSize_l1 g mask k (n / (Edge.Den (List.getD (Graph.Edges g) i Edge.zero))) (i + 1)) else (subsetSize_l1 g mask k n (i + 1))) else n)

def subsetSize (g : Graph) (mask : Int) : Int := (Go.Am.andThen (subsetSize_l0 g mask ((List.length (Graph.Rows g)) - 0 + 1) 1 0) (fun z => (fun (n1 : Int) => (Go.Am.andThen (subsetSize_l1 g mask ((List.length (Graph.Edges g)) - 0 + 1) n1 0) (fun z => (fun (n : Int) => (if 1 > n then 1 else n)) z))) z))

def subsetSize_sp : FnSpec := mkSpec [.val (.named 1), .val (.int .i64)] [.val (.int .i64)] (fun (g : Graph) (mask : Int) => VG g ∧ 0 ≤ mask) (fun (g : Graph) (mask : Int) => [⟨(.int .i64), (subsetSize g mask)⟩])

theorem subsetSize_ok : FnOK Try.prog 45 subsetSize_sp := by
 have hC : CtxOK Try.prog (mkCtx tyL [(41, has_sp)]) := CtxOK.cons has_ok (CtxOK.nil tyOK); refine FnOK.of_body Try.func45 (by kernel_rfl) rfl (C := (mkCtx tyL [(41, has_sp)])) hC.ty (by kernel_rfl) ?_; intro (g : Graph) (mask : Int) hwf hpre E; have hpre : VG g ∧ 0 ≤ mask := hpre; have hw_g : Wf ⟨(.named 1), (g : Graph)⟩ := hwf _ (List.Mem.head _); have hl_g_Rows : ((List.length (Graph.Rows g) : Nat) : Int) ≤ 9223372036854775807 := (hw_g.field (tv := ⟨(.slice (.int .i64)), Graph.Rows g⟩) (List.Mem.head _)).len; have hl_g_Edges : ((List.length (Graph.Edges g) : Nat) : Int) ≤ 9223372036854775807 := (hw_g.field (tv := ⟨(.slice (.named 0)), Graph.Edges g⟩) (List.Mem.tail _ (List.Mem.head _))).len; have hw_mask : Wf ⟨(.int .i64), (mask : Int)⟩ := hwf _ (List.Mem.tail _ (List.Mem.head _)); have hr_mask : -9223372036854775808 ≤ mask ∧ mask ≤ 9223372036854775807 := hw_mask.int_inv; have hV : VG g := hpre.1; have e0 : subsetSize g mask = subsetSize g mask := rfl; refine AW.seq (AW.r1U hC [1, 2] [8] [(2, .ref 8 1 0)] [(8, .box 1 [.data (.slice (.int .i64)) ((Graph.Rows g) : List Int), .data (.slice (.named 0)) ((Graph.Edges g) : List Edge)])] ?_); refine AW.seq (AW.r1U hC [1, 2, 5] [8] [(5, .int .i64 1)] [] ?_); refine AW.seq (AW.seq (AW.r1U hC [1, 2, 5, 6] [8] [(6, .int .i64 0)] [] ?_)); refine AW.lpB (ζ := Int) (fun x => ⟨[(1, .int .i64 mask), (2, .ref 8 1 0), (5, .int .i64 x)], [(8, .box 1 [.data (.slice (.int .i64)) ((Graph.Rows g) : List Int), .data (.slice (.named 0)) ((Graph.Edges g) : List Edge)])]⟩) (fun x => 0 ≤ x ∧ x ≤ 1000000000000000) (fun x => x) (α := Int × Nat) (fun x => ⟨[(1, .int .i64 mask), (2, .ref 8 1 0), (5, .int .i64 x.1), (6, .int .i64 ((x.2 : Nat) : Int))], [(8, .box 1 [.data (.slice (.int .i64)) ((Graph.Rows g) : List Int), .data (.slice (.named 0)) ((Graph.Edges g) : List Edge)])]⟩) (fun x => (1 ≤ x.1 ∧ x.1 ≤ 1000 ^ x.2) ∧ x.2 ≤ 5) (fun x => (List.length (Graph.Rows g)) - x.2) (fun k x => subsetSize_l0 g mask k x.1 x.2) (1, 0) (by kernel_rfl) ?_ ?_ ?_
 · first | exact ⟨⟨by decide, by decide⟩, by omega⟩ | (dsimp only; exact ⟨⟨by decide, by decide⟩, by omega⟩) | (show (1 ≤ 1 ∧ 1 ≤ 1000 ^ 0) ∧ 0 ≤ 5; exact ⟨⟨by decide, by decide⟩, by omega⟩)
 ·
  intro x k35q hI0 hk33 e34; obtain ⟨n1, i⟩ := x; (first | dsimp only at e34 | skip); replace hI0 : (1 ≤ n1 ∧ n1 ≤ 1000 ^ i) ∧ i ≤ 5 := hI0; have hr := fun (h : i < g.Rows.length) => hV.rows _ (getD_mem g.Rows i 0 h); have hn5 := hV.n5; have hp5 := fun (h : i < 5) => pow5 (i := i + 1) (by omega); refine AW.seq (AW.seq (AW.r1U hC [1, 2, 5, 6, 12] [8] [(12, .bool (decide (((i : Nat) : Int) < ((List.length (Graph.Rows g) : Nat) : Int))))] [] ?_)); refine AW.cdE e34 ?_ ?_
  ·
   intro h36q e37; refine AW.kpU [1, 2, 5, 6] [8] [] [] ?_; refine AW.skip (AW.seq (AW.block (AW.seq (AW.r0U hC [1, 2, 5, 6, 17] [8] [(17, .bool (has mask ((i : Nat) : Int)))] [] [(0 ≤ mask ∧ (0 ≤ ((i : Nat) : Int) ∧ ((i : Nat) : Int) ≤ 64))] ?_ ?_))))
   ·
    refine ⟨?_, trivial⟩
    · first | (omega) | ((dsimp only; omega)) | ((simp only [lens] at *; omega))
   refine AW.cdE e37 ?_ ?_
   ·
    intro h38q e39; refine AW.r0U hC [1, 2, 5, 6] [8] [(5, .int .i64 (n1 * (List.getD (Graph.Rows g) i 0)))] [] [(0 ≤ ((i : Nat) : Int) ∧ ((i : Nat) : Int) < ((List.length (Graph.Rows g) : Nat) : Int)), (-9223372036854775808 ≤ (n1 * (List.getD (Graph.Rows g) i 0)) ∧ (n1 * (List.getD (Graph.Rows g) i 0)) ≤ 9223372036854775807)] ?_ ?_
    ·
     refine ⟨?_, ?_, trivial⟩
     · first | (omega) | ((dsimp only; omega)) | ((simp only [lens] at *; omega))
     · have := times hI0.1.1 hI0.1.2 (hr (by omega)).1 (hr (by omega)).2; have := hp5 (by omega); omega
    refine AW.r0U hC [1, 2, 5, 6] [8] [(6, .int .i64 ((i + 1 : Nat) : Int))] [] [(-9223372036854775808 ≤ ((i + 1 : Nat) : Int) ∧ ((i + 1 : Nat) : Int) ≤ 9223372036854775807)] ?_ ?_
    ·
     refine ⟨?_, trivial⟩
     · first | (omega) | ((dsimp only; omega)) | ((simp only [lens] at *; omega))
    refine AW.bk ((n1 * (List.getD (Graph.Rows g) i 0)), i + 1) e39 hk33 ?_ ?_
    · first | exact ⟨times hI0.1.1 hI0.1.2 (hr (by omega)).1 (hr (by omega)).2, by omega⟩ | (dsimp only; exact ⟨times hI0.1.1 hI0.1.2 (hr (by omega)).1 (hr (by omega)).2, by omega⟩) | (show (1 ≤ (n1 * (List.getD (Graph.Rows g) i 0)) ∧ (n1 * (List.getD (Graph.Rows g) i 0)) ≤ 1000 ^ (i + 1)) ∧ (i + 1) ≤ 5; exact ⟨times hI0.1.1 hI0.1.2 (hr (by omega)).1 (hr (by omega)).2, by omega⟩)
    · first | omega | (simp only [lens]; omega) | (dsimp only; omega) | (dsimp only; (simp only [lens]; omega)) | (show (List.length (Graph.Rows g)) - (i + 1) < (List.length (Graph.Rows g)) - i; omega) | (show (List.length (Graph.Rows g)) - (i + 1) < (List.length (Graph.Rows g)) - i; (simp only [lens]; omega))
   ·
    intro h40q e41; refine AW.kpU [1, 2, 5, 6] [8] [] [] ?_; refine AW.skip (AW.r0U hC [1, 2, 5, 6] [8] [(6, .int .i64 ((i + 1 : Nat) : Int))] [] [(-9223372036854775808 ≤ ((i + 1 : Nat) : Int) ∧ ((i + 1 : Nat) : Int) ≤ 9223372036854775807)] ?_ ?_)
    ·
     refine ⟨?_, trivial⟩
     · first | (omega) | ((dsimp only; omega)) | ((simp only [lens] at *; omega))
    refine AW.bk (n1, i + 1) e41 hk33 ?_ ?_
    · first | exact ⟨⟨hI0.1.1, grow5 hI0.1.2⟩, by omega⟩ | (dsimp only; exact ⟨⟨hI0.1.1, grow5 hI0.1.2⟩, by omega⟩) | (show (1 ≤ n1 ∧ n1 ≤ 1000 ^ (i + 1)) ∧ (i + 1) ≤ 5; exact ⟨⟨hI0.1.1, grow5 hI0.1.2⟩, by omega⟩)
    · first | omega | (simp only [lens]; omega) | (dsimp only; omega) | (dsimp only; (simp only [lens]; omega)) | (show (List.length (Graph.Rows g)) - (i + 1) < (List.length (Graph.Rows g)) - i; omega) | (show (List.length (Graph.Rows g)) - (i + 1) < (List.length (Graph.Rows g)) - i; (simp only [lens]; omega))
  · intro h42q e43; refine AW.kpU [1, 2, 5] [8] [] [] ?_; refine AW.exit ?_; refine AW.meet n1 (by kernel_rfl) ⟨?_, e43⟩; first | have := pow5 hI0.2; omega | (dsimp only; have := pow5 hI0.2; omega) | (show 0 ≤ n1 ∧ n1 ≤ 1000000000000000; have := pow5 hI0.2; omega)
 ·
  intro n1 hJ0 e44; replace hJ0 : 0 ≤ n1 ∧ n1 ≤ 1000000000000000 := hJ0; have e45 := e0.trans (Go.Am.then_eq e44); (first | dsimp only at e45 | skip); refine AW.seq (AW.seq (AW.r1U hC [1, 2, 5, 7] [8] [(7, .int .i64 0)] [] ?_)); refine AW.lpB (ζ := Int) (fun x => ⟨[(5, .int .i64 x)], []⟩) (fun x => 0 ≤ x ∧ x ≤ 1000000000000000) (fun x => x) (α := Int × Nat) (fun x => ⟨[(1, .int .i64 mask), (2, .ref 8 1 0), (5, .int .i64 x.1), (7, .int .i64 ((x.2 : Nat) : Int))], [(8, .box 1 [.data (.slice (.int .i64)) ((Graph.Rows g) : List Int), .data (.slice (.named 0)) ((Graph.Edges g) : List Edge)])]⟩) (fun x => 0 ≤ x.1 ∧ x.1 ≤ 1000000000000000) (fun x => (List.length (Graph.Edges g)) - x.2) (fun k x => subsetSize_l1 g mask k x.1 x.2) (n1, 0) (by kernel_rfl) ?_ ?_ ?_
  · first | exact hJ0 | (dsimp only; exact hJ0) | (show 0 ≤ n1 ∧ n1 ≤ 1000000000000000; exact hJ0)
  ·
   intro x k72q hI1 hk70 e71; obtain ⟨n, i⟩ := x; (first | dsimp only at e71 | skip); replace hI1 : 0 ≤ n ∧ n ≤ 1000000000000000 := hI1; have he := fun (h : i < g.Edges.length) => hV.edges _ (getD_mem g.Edges i Edge.zero h); have hn6 := hV.e6; have hn5 := hV.n5; refine AW.seq (AW.seq (AW.r1U hC [1, 2, 5, 7, 29] [8] [(29, .bool (decide (((i : Nat) : Int) < ((List.length (Graph.Edges g) : Nat) : Int))))] [] ?_)); refine AW.cdE e71 ?_ ?_
   ·
    intro h73q e74; refine AW.kpU [1, 2, 5, 7] [8] [] [] ?_; refine AW.skip (AW.seq (AW.block (AW.seq (AW.r0U hC [1, 2, 5, 7, 49] [8] [(49, .bool (bif (has mask (Edge.A (List.getD (Graph.Edges g) i Edge.zero))) then (has mask (Edge.B (List.getD (Graph.Edges g) i Edge.zero))) else false))] [] [(0 ≤ ((i : Nat) : Int) ∧ ((i : Nat) : Int) < ((List.length (Graph.Edges g) : Nat) : Int)), (0 ≤ mask ∧ (0 ≤ (Edge.A (List.getD (Graph.Edges g) i Edge.zero)) ∧ (Edge.A (List.getD (Graph.Edges g) i Edge.zero)) ≤ 64)), (((has mask (Edge.A (List.getD (Graph.Edges g) i Edge.zero))) = true) → (((has mask (Edge.A (List.getD (Graph.Edges g) i Edge.zero))) = true))), (((has mask (Edge.A (List.getD (Graph.Edges g) i Edge.zero))) = true) → (((has mask (Edge.A (List.getD (Graph.Edges g) i Edge.zero))) = true))), (((has mask (Edge.A (List.getD (Graph.Edges g) i Edge.zero))) = true) → (((has mask (Edge.A (List.getD (Graph.Edges g) i Edge.zero))) = true))), (((has mask (Edge.A (List.getD (Graph.Edges g) i Edge.zero))) = true) → (0 ≤ ((i : Nat) : Int) ∧ ((i : Nat) : Int) < ((List.length (Graph.Edges g) : Nat) : Int))), (((has mask (Edge.A (List.getD (Graph.Edges g) i Edge.zero))) = true) → (((has mask (Edge.A (List.getD (Graph.Edges g) i Edge.zero))) = true))), (((has mask (Edge.A (List.getD (Graph.Edges g) i Edge.zero))) = true) → (((has mask (Edge.A (List.getD (Graph.Edges g) i Edge.zero))) = true))), (((has mask (Edge.A (List.getD (Graph.Edges g) i Edge.zero))) = true) → (((has mask (Edge.A (List.getD (Graph.Edges g) i Edge.zero))) = true))), (((has mask (Edge.A (List.getD (Graph.Edges g) i Edge.zero))) = true) → (((has mask (Edge.A (List.getD (Graph.Edges g) i Edge.zero))) = true))), (((has mask (Edge.A (List.getD (Graph.Edges g) i Edge.zero))) = true) → (0 ≤ mask ∧ (0 ≤ (Edge.B (List.getD (Graph.Edges g) i Edge.zero)) ∧ (Edge.B (List.getD (Graph.Edges g) i Edge.zero)) ≤ 64))), (((has mask (Edge.A (List.getD (Graph.Edges g) i Edge.zero))) = true) → (((has mask (Edge.A (List.getD (Graph.Edges g) i Edge.zero))) = true)))] ?_ ?_))))
    ·
     refine ⟨?_, ?_, ?_, ?_, ?_, ?_, ?_, ?_, ?_, ?_, ?_, ?_, trivial⟩
     · first | (omega) | ((have h := he (by omega); omega))
     · first | (omega) | ((have h := he (by omega); omega))
     · first | (intro g75; assumption) | (intro g75; exact ⟨by assumption, by assumption⟩) | (intro g75; (have g75p0 : (has mask (Edge.A (List.getD (Graph.Edges g) i Edge.zero))) = true := g75); assumption) | (intro g75; (have g75p0 : (has mask (Edge.A (List.getD (Graph.Edges g) i Edge.zero))) = true := g75); exact ⟨by assumption, by assumption⟩)
     · first | (intro g76; assumption) | (intro g76; exact ⟨by assumption, by assumption⟩) | (intro g76; (have g76p0 : (has mask (Edge.A (List.getD (Graph.Edges g) i Edge.zero))) = true := g76); assumption) | (intro g76; (have g76p0 : (has mask (Edge.A (List.getD (Graph.Edges g) i Edge.zero))) = true := g76); exact ⟨by assumption, by assumption⟩)
     · first | (intro g77; assumption) | (intro g77; exact ⟨by assumption, by assumption⟩) | (intro g77; (have g77p0 : (has mask (Edge.A (List.getD (Graph.Edges g) i Edge.zero))) = true := g77); assumption) | (intro g77; (have g77p0 : (has mask (Edge.A (List.getD (Graph.Edges g) i Edge.zero))) = true := g77); exact ⟨by assumption, by assumption⟩)
     · first | (intro g78; omega) | (intro g78; (have h := he (by omega); omega)) | (intro g78; (have g78p0 : (has mask (Edge.A (List.getD (Graph.Edges g) i Edge.zero))) = true := g78); omega) | (intro g78; (have g78p0 : (has mask (Edge.A (List.getD (Graph.Edges g) i Edge.zero))) = true := g78); (have h := he (by omega); omega))
     · first | (intro g79; assumption) | (intro g79; exact ⟨by assumption, by assumption⟩) | (intro g79; (have g79p0 : (has mask (Edge.A (List.getD (Graph.Edges g) i Edge.zero))) = true := g79); assumption) | (intro g79; (have g79p0 : (has mask (Edge.A (List.getD (Graph.Edges g) i Edge.zero))) = true := g79); exact ⟨by assumption, by assumption⟩)
     · first | (intro g80; assumption) | (intro g80; exact ⟨by assumption, by assumption⟩) | (intro g80; (have g80p0 : (has mask (Edge.A (List.getD (Graph.Edges g) i Edge.zero))) = true := g80); assumption) | (intro g80; (have g80p0 : (has mask (Edge.A (List.getD (Graph.Edges g) i Edge.zero))) = true := g80); exact ⟨by assumption, by assumption⟩)
     · first | (intro g81; assumption) | (intro g81; exact ⟨by assumption, by assumption⟩) | (intro g81; (have g81p0 : (has mask (Edge.A (List.getD (Graph.Edges g) i Edge.zero))) = true := g81); assumption) | (intro g81; (have g81p0 : (has mask (Edge.A (List.getD (Graph.Edges g) i Edge.zero))) = true := g81); exact ⟨by assumption, by assumption⟩)
     · first | (intro g82; assumption) | (intro g82; exact ⟨by assumption, by assumption⟩) | (intro g82; (have g82p0 : (has mask (Edge.A (List.getD (Graph.Edges g) i Edge.zero))) = true := g82); assumption) | (intro g82; (have g82p0 : (has mask (Edge.A (List.getD (Graph.Edges g) i Edge.zero))) = true := g82); exact ⟨by assumption, by assumption⟩)
     · first | (intro g83; omega) | (intro g83; (have h := he (by omega); omega)) | (intro g83; (have g83p0 : (has mask (Edge.A (List.getD (Graph.Edges g) i Edge.zero))) = true := g83); omega) | (intro g83; (have g83p0 : (has mask (Edge.A (List.getD (Graph.Edges g) i Edge.zero))) = true := g83); (have h := he (by omega); omega))
     · first | (intro g84; assumption) | (intro g84; exact ⟨by assumption, by assumption⟩) | (intro g84; (have g84p0 : (has mask (Edge.A (List.getD (Graph.Edges g) i Edge.zero))) = true := g84); assumption) | (intro g84; (have g84p0 : (has mask (Edge.A (List.getD (Graph.Edges g) i Edge.zero))) = true := g84); exact ⟨by assumption, by assumption⟩)
    refine AW.cdE e74 ?_ ?_
    ·
     intro h85q e86; refine AW.r0U hC [1, 2, 5, 7] [8] [(5, .int .i64 (n / (Edge.Den (List.getD (Graph.Edges g) i Edge.zero))))] [] [(0 ≤ ((i : Nat) : Int) ∧ ((i : Nat) : Int) < ((List.length (Graph.Edges g) : Nat) : Int)), (0 ≤ n ∧ 0 < (Edge.Den (List.getD (Graph.Edges g) i Edge.zero)))] ?_ ?_
     ·
      refine ⟨?_, ?_, trivial⟩
      · first | (omega) | ((have h := he (by omega); omega))
      · first | (omega) | ((have h := he (by omega); omega))
     refine AW.r0U hC [1, 2, 5, 7] [8] [(7, .int .i64 ((i + 1 : Nat) : Int))] [] [(-9223372036854775808 ≤ ((i + 1 : Nat) : Int) ∧ ((i + 1 : Nat) : Int) ≤ 9223372036854775807)] ?_ ?_
     ·
      refine ⟨?_, trivial⟩
      · first | (omega) | ((dsimp only; omega)) | ((simp only [lens] at *; omega))
     refine AW.bk ((n / (Edge.Den (List.getD (Graph.Edges g) i Edge.zero))), i + 1) e86 hk70 ?_ ?_
     · first | have := divs hI1.1 (he (by omega)).2.2.2.1; omega | (dsimp only; have := divs hI1.1 (he (by omega)).2.2.2.1; omega) | (show 0 ≤ (n / (Edge.Den (List.getD (Graph.Edges g) i Edge.zero))) ∧ (n / (Edge.Den (List.getD (Graph.Edges g) i Edge.zero))) ≤ 1000000000000000; have := divs hI1.1 (he (by omega)).2.2.2.1; omega)
     · first | omega | (simp only [lens]; omega) | (dsimp only; omega) | (dsimp only; (simp only [lens]; omega)) | (show (List.length (Graph.Edges g)) - (i + 1) < (List.length (Graph.Edges g)) - i; omega) | (show (List.length (Graph.Edges g)) - (i + 1) < (List.length (Graph.Edges g)) - i; (simp only [lens]; omega))
    ·
     intro h87q e88; refine AW.kpU [1, 2, 5, 7] [8] [] [] ?_; refine AW.skip (AW.r0U hC [1, 2, 5, 7] [8] [(7, .int .i64 ((i + 1 : Nat) : Int))] [] [(-9223372036854775808 ≤ ((i + 1 : Nat) : Int) ∧ ((i + 1 : Nat) : Int) ≤ 9223372036854775807)] ?_ ?_)
     ·
      refine ⟨?_, trivial⟩
      · first | (omega) | ((dsimp only; omega)) | ((simp only [lens] at *; omega))
     refine AW.bk (n, i + 1) e88 hk70 ?_ ?_
     · first | exact hI1 | (dsimp only; exact hI1) | (show 0 ≤ n ∧ n ≤ 1000000000000000; exact hI1)
     · first | omega | (simp only [lens]; omega) | (dsimp only; omega) | (dsimp only; (simp only [lens]; omega)) | (show (List.length (Graph.Edges g)) - (i + 1) < (List.length (Graph.Edges g)) - i; omega) | (show (List.length (Graph.Edges g)) - (i + 1) < (List.length (Graph.Edges g)) - i; (simp only [lens]; omega))
   · intro h89q e90; refine AW.kpU [5] [] [] [] ?_; refine AW.exit ?_; refine AW.meet n (by kernel_rfl) ⟨?_, e90⟩; first | exact hI1 | (dsimp only; exact hI1) | (show 0 ≤ n ∧ n ≤ 1000000000000000; exact hI1)
  · intro n hJ1 e91; replace hJ1 : 0 ≤ n ∧ n ≤ 1000000000000000 := hJ1; have e92 := e45.trans (Go.Am.then_eq e91); (first | dsimp only at e92 | skip); refine AW.seq (AW.r1 hC [4] [] ⟨[(4, .int .i64 (if 1 > n then 1 else n))], []⟩ ?_); exact AW.ret (AW.retE (β := Int) (fun v => [⟨(.int .i64), v⟩]) (fun v => []) (v := (if 1 > n then 1 else n)) e92 (by kernel_rfl) rfl rfl)

def iSubsetSize (g : Graph) (mask : Int) : Int := (bif (bif (bif (!(ValidGraph g)) then true else (decide (mask < 1))) then true else (decide ((gAll g) < mask))) then (-1) else (gSize g mask))

def iSubsetSize_sp : FnSpec := mkSpec [.val (.named 1), .val (.int .i64)] [.val (.int .i64)] (fun (g : Graph) (mask : Int) => True) (fun (g : Graph) (mask : Int) => [⟨(.int .i64), (iSubsetSize g mask)⟩])

theorem iSubsetSize_ok : FnOK Try.prog 10 iSubsetSize_sp := by
 have hC : CtxOK Try.prog (mkCtx tyL [(21, ValidGraph_sp), (23, gAll_sp), (25, gSize_sp)]) := CtxOK.cons ValidGraph_ok (CtxOK.cons gAll_ok (CtxOK.cons gSize_ok (CtxOK.nil tyOK))); refine FnOK.of_body Try.func10 (by kernel_rfl) rfl (C := (mkCtx tyL [(21, ValidGraph_sp), (23, gAll_sp), (25, gSize_sp)])) hC.ty (by kernel_rfl) ?_; intro (g : Graph) (mask : Int) hwf hpre E; have hpre : True := hpre; have hw_g : Wf ⟨(.named 1), (g : Graph)⟩ := hwf _ (List.Mem.head _); have hl_g_Rows : ((List.length (Graph.Rows g) : Nat) : Int) ≤ 9223372036854775807 := (hw_g.field (tv := ⟨(.slice (.int .i64)), Graph.Rows g⟩) (List.Mem.head _)).len; have hl_g_Edges : ((List.length (Graph.Edges g) : Nat) : Int) ≤ 9223372036854775807 := (hw_g.field (tv := ⟨(.slice (.named 0)), Graph.Edges g⟩) (List.Mem.tail _ (List.Mem.head _))).len; have hw_mask : Wf ⟨(.int .i64), (mask : Int)⟩ := hwf _ (List.Mem.tail _ (List.Mem.head _)); have hr_mask : -9223372036854775808 ≤ mask ∧ mask ≤ 9223372036854775807 := hw_mask.int_inv; have e0 : iSubsetSize g mask = iSubsetSize g mask := rfl; refine AW.seq (AW.r1U hC [1, 2] [8] [(2, .ref 8 1 0)] [(8, .box 1 [.data (.slice (.int .i64)) ((Graph.Rows g) : List Int), .data (.slice (.named 0)) ((Graph.Edges g) : List Edge)])] ?_); refine AW.seq (AW.seq (AW.r0U hC [1, 2, 16] [8] [(16, .bool (bif (bif (!(ValidGraph g)) then true else (decide (mask < 1))) then true else (decide ((gAll g) < mask))))] [] [(True), (((!(ValidGraph g)) = false) → (((!(ValidGraph g)) = false))), (((!(ValidGraph g)) = false) → (((!(ValidGraph g)) = false))), (((bif (!(ValidGraph g)) then true else (decide (mask < 1))) = false) → (g.Rows.length ≤ 40)), (((bif (!(ValidGraph g)) then true else (decide (mask < 1))) = false) → (((bif (!(ValidGraph g)) then true else (decide (mask < 1))) = false))), (((bif (!(ValidGraph g)) then true else (decide (mask < 1))) = false) → (((bif (!(ValidGraph g)) then true else (decide (mask < 1))) = false))), (((bif (!(ValidGraph g)) then true else (decide (mask < 1))) = false) → (((bif (!(ValidGraph g)) then true else (decide (mask < 1))) = false)))] ?_ ?_))
 ·
  refine ⟨?_, ?_, ?_, ?_, ?_, ?_, ?_, trivial⟩
  · trivial
  · first | (intro g1; assumption) | (intro g1; exact ⟨by assumption, by assumption⟩) | (intro g1; (have g1p0 : (ValidGraph g) = true := (Go.Am.not_neg g1)); assumption) | (intro g1; (have g1p0 : (ValidGraph g) = true := (Go.Am.not_neg g1)); exact ⟨by assumption, by assumption⟩)
  · first | (intro g2; assumption) | (intro g2; exact ⟨by assumption, by assumption⟩) | (intro g2; (have g2p0 : (ValidGraph g) = true := (Go.Am.not_neg g2)); assumption) | (intro g2; (have g2p0 : (ValidGraph g) = true := (Go.Am.not_neg g2)); exact ⟨by assumption, by assumption⟩)
  · intro g3; (have g3p0 : ((ValidGraph g) = true) ∧ (¬ (mask < 1)) := (And.imp (fun h => (Go.Am.not_neg h)) (fun h => (of_decide_eq_false h)) (Go.Am.or_neg g3))); (have hV := ValidGraph_iff.1 (by first | exact g3p0 | exact trivial | exact g3p0.1)); have := hV.n5; omega
  · first | (intro g4; assumption) | (intro g4; exact ⟨by assumption, by assumption⟩) | (intro g4; (have g4p0 : ((ValidGraph g) = true) ∧ (¬ (mask < 1)) := (And.imp (fun h => (Go.Am.not_neg h)) (fun h => (of_decide_eq_false h)) (Go.Am.or_neg g4))); assumption) | (intro g4; (have g4p0 : ((ValidGraph g) = true) ∧ (¬ (mask < 1)) := (And.imp (fun h => (Go.Am.not_neg h)) (fun h => (of_decide_eq_false h)) (Go.Am.or_neg g4))); exact ⟨by assumption, by assumption⟩)
  · first | (intro g5; assumption) | (intro g5; exact ⟨by assumption, by assumption⟩) | (intro g5; (have g5p0 : ((ValidGraph g) = true) ∧ (¬ (mask < 1)) := (And.imp (fun h => (Go.Am.not_neg h)) (fun h => (of_decide_eq_false h)) (Go.Am.or_neg g5))); assumption) | (intro g5; (have g5p0 : ((ValidGraph g) = true) ∧ (¬ (mask < 1)) := (And.imp (fun h => (Go.Am.not_neg h)) (fun h => (of_decide_eq_false h)) (Go.Am.or_neg g5))); exact ⟨by assumption, by assumption⟩)
  · first | (intro g6; assumption) | (intro g6; exact ⟨by assumption, by assumption⟩) | (intro g6; (have g6p0 : ((ValidGraph g) = true) ∧ (¬ (mask < 1)) := (And.imp (fun h => (Go.Am.not_neg h)) (fun h => (of_decide_eq_false h)) (Go.Am.or_neg g6))); assumption) | (intro g6; (have g6p0 : ((ValidGraph g) = true) ∧ (¬ (mask < 1)) := (And.imp (fun h => (Go.Am.not_neg h)) (fun h => (of_decide_eq_false h)) (Go.Am.or_neg g6))); exact ⟨by assumption, by assumption⟩)
 refine AW.cdE e0 ?_ ?_
 · intro h7q e8; refine AW.seq (AW.r1 hC [4] [] ⟨[(4, .int .i64 (-1))], []⟩ ?_); exact AW.ret (AW.retE (β := Int) (fun v => [⟨(.int .i64), v⟩]) (fun v => []) (v := (-1)) e8 (by kernel_rfl) rfl rfl)
 ·
  intro h9q e10; refine AW.kpU [1, 2] [8] [] [] ?_; refine AW.skip (AW.seq (AW.r0 hC [4] [] ⟨[(4, .int .i64 (gSize g mask))], []⟩ [(VG g ∧ True)] ?_ ?_))
  ·
   refine ⟨?_, trivial⟩
   · exact ⟨ValidGraph_iff.1 h9q.1.1, trivial⟩
  exact AW.ret (AW.retE (β := Int) (fun v => [⟨(.int .i64), v⟩]) (fun v => []) (v := (gSize g mask)) e10 (by kernel_rfl) rfl rfl)

end
end Go.Proofs.Ytclennmbceaoeaa


namespace Go.Proofs.Ytclennmbceaoeaa
open Go Go.Am

theorem has_bit {m : Int} {i : Nat} (hm : 0 ≤ m) (hm' : m < 4611686018427387904) (hi : i ≤ 61) : (bits .and .i64 m ((1 : Int) * 2 ^ i) != 0) = has m ((i : Nat) : Int) := by
 unfold has; exact bit_ne hm hm' hi

theorem size_l0_eq {g : Graph} {m : Int} (hV : VG g) (hm : 0 ≤ m) (hm' : m < 4611686018427387904) : ∀ (k : Nat) (n : Int) (i : Nat), gSize_l0 g m k n i = subsetSize_l0 g m k n i := by
 intro k
 induction k with
 | zero => intro n i; rfl
 | succ k ih =>
  intro n i; unfold gSize_l0 subsetSize_l0; by_cases hi : i < g.Rows.length
  · have := hV.n5; rw [lt_dec hi, cond_true, cond_true, has_bit hm hm' (by omega), ih, ih]
  · rw [ge_dec hi]; rfl

theorem size_l1_eq {g : Graph} {m : Int} (hV : VG g) (hm : 0 ≤ m) (hm' : m < 4611686018427387904) : ∀ (k : Nat) (n : Int) (i : Nat), gSize_l1 g m k n i = subsetSize_l1 g m k n i := by
 intro k
 induction k with
 | zero => intro n i; rfl
 | succ k ih =>
  intro n i; unfold gSize_l1 subsetSize_l1; by_cases hi : i < g.Edges.length
  · have h5 := hV.n5; have he := hV.edges _ (getD_mem g.Edges i Edge.zero hi); have ha := has_bit (m := m) (i := Int.toNat (Edge.A (List.getD (Graph.Edges g) i Edge.zero))) hm hm' (by omega); have hb := has_bit (m := m) (i := Int.toNat (Edge.B (List.getD (Graph.Edges g) i Edge.zero))) hm hm' (by omega); rw [Int.toNat_of_nonneg (by omega)] at ha hb; rw [lt_dec hi, cond_true, cond_true, ha, hb, ih, ih]
  · rw [ge_dec hi]; rfl

theorem size_eq {g : Graph} {m : Int} (hV : VG g) (hm : 0 ≤ m) (hm' : m < 4611686018427387904) : gSize g m = subsetSize g m := by
 unfold gSize subsetSize; simp only [Go.Am.andThen, size_l0_eq hV hm hm', size_l1_eq hV hm hm']

end Go.Proofs.Ytclennmbceaoeaa
