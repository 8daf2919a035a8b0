/-
  A part of the proof of this claim (Ao3): what functions of the program compute, and plain facts of that. No conditions.
-/
import Derived.Test.YtclennmbceaoeaaAo2
set_option linter.all false
namespace Go.Proofs.Ytclennmbceaoeaa
open Go Go.Am
noncomputable section

def subsetSize_l0 (g : Graph) (mask : Int) : Nat → Int → Nat → Int
 | 0, n1, i => n1
 | k + 1, n1, i => (bif (decide (((i : Nat) : Int) < ((List.length (Graph.Rows g) : Nat) : Int))) then (bif (has mask ((i : Nat) : Int)) then (subsetSize_l0 g mask k (n1 * (List.getD (Graph.Rows g) i 0)) (i + 1)) else (subsetSize_l0 g mask k n1 (i + 1))) else n1)

def subsetSize_l1 (g : Graph) (mask : Int) : Nat → Int → Nat → Int
 | 0, n, i => n
 | k + 1, n, i => (bif (decide (((i : Nat) : Int) < ((List.length (Graph.Edges g) : Nat) : Int))) then (bif (bif (has mask (Edge.A (List.getD (Graph.Edges g) i Edge.zero))) then (has mask (Edge.B (List.getD (Graph.Edges g) i Edge.zero))) else false) then (subsetSize_l1 g mask k (n / (Edge.Den (List.getD (Graph.Edges g) i Edge.zero))) (i + 1)) else (subsetSize_l1 g mask k n (i + 1))) else n)

def subsetSize (g : Graph) (mask : Int) : Int := (Go.Am.andThen (subsetSize_l0 g mask ((List.length (Graph.Rows g)) - 0 + 1) 1 0) (fun z => (fun (n1 : Int) => (Go.Am.andThen (subsetSize_l1 g mask ((List.length (Graph.Edges g)) - 0 + 1) n1 0) (fun z => (fun (n : Int) => (if 1 > n then 1 else n)) z))) z))

def subsetSize_sp : FnSpec := mkSpec [.val (.named 1), .val (.int .i64)] [.val (.int .i64)] (fun (g : Graph) (mask : Int) => VG g ∧ 0 ≤ mask) (fun (g : Graph) (mask : Int) => [⟨(.int .i64), (subsetSize g mask)⟩])

theorem subsetSize_ok : FnOK Try.prog 45 subsetSize_sp := by
 have hC : CtxOK Try.prog (mkCtx tyL [(41, has_sp)]) := CtxOK.cons has_ok (CtxOK.nil tyOK); refine FnOK.of_body Try.func45 (by kernel_rfl) rfl (C := (mkCtx tyL [(41, has_sp)])) hC.ty (by kernel_rfl) ?_; intro (g : Graph) (mask : Int) hwf hpre E; have hpre : VG g ∧ 0 ≤ mask := hpre; have hw_g : Wf ⟨(.named 1), (g : Graph)⟩ := hwf _ (List.Mem.head _); have hl_g_Rows : ((List.length (Graph.Rows g) : Nat) : Int) ≤ 9223372036854775807 := (hw_g.field (tv := ⟨(.slice (.int .i64)), Graph.Rows g⟩) (List.Mem.head _)).len; have hl_g_Edges : ((List.length (Graph.Edges g) : Nat) : Int) ≤ 9223372036854775807 := (hw_g.field (tv := ⟨(.slice (.named 0)), Graph.Edges g⟩) (List.Mem.tail _ (List.Mem.head _))).len; have hw_mask : Wf ⟨(.int .i64), (mask : Int)⟩ := hwf _ (List.Mem.tail _ (List.Mem.head _)); have hr_mask : -9223372036854775808 ≤ mask ∧ mask ≤ 9223372036854775807 := hw_mask.int_inv; have hV : VG g := hpre.1; have e0 : subsetSize g mask = subsetSize g mask := rfl; refine AW.seq (AW.r1U hC [1, 2] [8] [(2, .ref 8 1 0)] [(8, .box 1 [.data (.slice (.int .i64)) ((Graph.Rows g) : List Int), .data (.slice (.named 0)) ((Graph.Edges g) : List Edge)])] ?_); refine AW.seq (AW.r1U hC [1, 2, 5] [8] [(5, .int .i64 1)] [] ?_); refine AW.seq (AW.seq (AW.r1U hC [1, 2, 5, 6] [8] [(6, .int .i64 0)] [] ?_)); refine AW.lpB (ζ := Int) (fun x => ⟨[(1, .int .i64 mask), (2, .ref 8 1 0), (5, .int .i64 x)], [(8, .box 1 [.data (.slice (.int .i64)) ((Graph.Rows g) : List Int), .data (.slice (.named 0)) ((Graph.Edges g) : List Edge)])]⟩) (fun x => 0 ≤ x ∧ x ≤ 1000000000000000) (fun x => x) (α := Int × Nat) (fun x => ⟨[(1, .int .i64 mask), (2, .ref 8 1 0), (5, .int .i64 x.1), (6, .int .i64 ((x.2 : Nat) : Int))], [(8, .box 1 [.data (.slice (.int .i64)) ((Graph.Rows g) : List Int), .data (.slice (.named 0)) ((Graph.Edges g) : List Edge)])]⟩) (fun x => (1 ≤ x.1 ∧ x.1 ≤ 1000 ^ x.2) ∧ x.2 ≤ 5) (fun x => (List.length (Graph.Rows g)) - x.2) (fun k x => subsetSize_l0 g mask k x.1 x.2) (1, 0) (by kernel_rfl) ?_ ?_ ?_
 · first | exact ⟨⟨by decide, by decide⟩, by omega⟩ | (dsimp only; exact ⟨⟨by decide, by decide⟩, by omega⟩) | (show (1 ≤ 1 ∧ 1 ≤ 1000 ^ 0) ∧ 0 ≤ 5; exact ⟨⟨by decide, by decide⟩, by omega⟩)
 ·
  intro x k35q hI0 hk33 e34; obtain ⟨n1, i⟩ := x; (first | dsimp only at e34 | skip); replace hI0 : (1 ≤ n1 ∧ n1 ≤ 1000 ^ i) ∧ i ≤ 5 := hI0; have hr := fun (h : i < g.Rows.length) => hV.rows _ (getD_mem g.Rows i 0 h); have hn5 := hV.n5; have hp5 := fun (h : i < 5) => pow5 (i := i + 1) (by omega); refine AW.seq (AW.seq (AW.r1U hC [1, 2, 5, 6, 12] [8] [(12, .bool (decide (((i : Nat) : Int) < ((List.length (Graph.Rows g) : Nat) : Int))))] [] ?_)); refine AW.cdE e34 ?_ ?_
  ·
   intro h36q e37; refine AW.kpU [1, 2, 5, 6] [8] [] [] ?_; refine AW.skip (AW.seq (AW.block (AW.seq (AW.r0U hC [1, 2, 5, 6, 17] [8] [(17, .bool (has mask ((i : Nat) : Int)))] [] [(0 ≤ mask ∧ (0 ≤ ((i : Nat) : Int) ∧ ((i : Nat) : Int) ≤ 64))] ?_ ?_))))
   ·
    refine ⟨?_, trivial⟩
    · first | (omega) | ((dsimp only; omega)) | ((simp only [lens] at *; omega))
   refine AW.cdE e37 ?_ ?_
   ·
    intro h38q e39; refine AW.r0U hC [1, 2, 5, 6] [8] [(5, .int .i64 (n1 * (List.getD (Graph.Rows g) i 0)))] [] [(0 ≤ ((i : Nat) : Int) ∧ ((i : Nat) : Int) < ((List.length (Graph.Rows g) : Nat) : Int)), (-9223372036854775808 ≤ (n1 * (List.getD (Graph.Rows g) i 0)) ∧ (n1 * (List.getD (Graph.Rows g) i 0)) ≤ 9223372036854775807)] ?_ ?_
    ·
     refine ⟨?_, ?_, trivial⟩
     · first | (omega) | ((dsimp only; omega)) | ((simp only [lens] at *; omega))
     · have := times hI0.1.1 hI0.1.2 (hr (by omega)).1 (hr (by omega)).2; have := hp5 (by omega); omega
    refine AW.r0U hC [1, 2, 5, 6] [8] [(6, .int .i64 ((i + 1 : Nat) : Int))] [] [(-9223372036854775808 ≤ ((i + 1 : Nat) : Int) ∧ ((i + 1 : Nat) : Int) ≤ 9223372036854775807)] ?_ ?_
    ·
     refine ⟨?_, trivial⟩
     · first | (omega) | ((dsimp only; omega)) | ((simp only [lens] at *; omega))
    refine AW.bk ((n1 * (List.getD (Graph.Rows g) i 0)), i + 1) e39 hk33 ?_ ?_
    · first | exact ⟨times hI0.1.1 hI0.1.2 (hr (by omega)).1 (hr (by omega)).2, by omega⟩ | (dsimp only; exact ⟨times hI0.1.1 hI0.1.2 (hr (by omega)).1 (hr (by omega)).2, by omega⟩) | (show (1 ≤ (n1 * (List.getD (Graph.Rows g) i 0)) ∧ (n1 * (List.getD (Graph.Rows g) i 0)) ≤ 1000 ^ (i + 1)) ∧ (i + 1) ≤ 5; exact ⟨times hI0.1.1 hI0.1.2 (hr (by omega)).1 (hr (by omega)).2, by omega⟩)
    · first | omega | (simp only [lens]; omega) | (dsimp only; omega) | (dsimp only; (simp only [lens]; omega)) | (show (List.length (Graph.Rows g)) - (i + 1) < (List.length (Graph.Rows g)) - i; omega) | (show (List.length (Graph.Rows g)) - (i + 1) < (List.length (Graph.Rows g)) - i; (simp only [lens]; omega))
   ·
    intro h40q e41; refine AW.kpU [1, 2, 5, 6] [8] [] [] ?_; refine AW.skip (AW.r0U hC [1, 2, 5, 6] [8] [(6, .int .i64 ((i + 1 : Nat) : Int))] [] [(-9223372036854775808 ≤ ((i + 1 : Nat) : Int) ∧ ((i + 1 : Nat) : Int) ≤ 9223372036854775807)] ?_ ?_)
    ·
     refine ⟨?_, trivial⟩
     · first | (omega) | ((dsimp only; omega)) | ((simp only [lens] at *; omega))
    refine AW.bk (n1, i + 1) e41 hk33 ?_ ?_
    · first | exact ⟨⟨hI0.1.1, grow5 hI0.1.2⟩, by omega⟩ | (dsimp only; exact ⟨⟨hI0.1.1, grow5 hI0.1.2⟩, by omega⟩) | (show (1 ≤ n1 ∧ n1 ≤ 1000 ^ (i + 1)) ∧ (i + 1) ≤ 5; exact ⟨⟨hI0.1.1, grow5 hI0.1.2⟩, by omega⟩)
    · first | omega | (simp only [lens]; omega) | (dsimp only; omega) | (dsimp only; (simp only [lens]; omega)) | (show (List.length (Graph.Rows g)) - (i + 1) < (List.length (Graph.Rows g)) - i; omega) | (show (List.length (Graph.Rows g)) - (i + 1) < (List.length (Graph.Rows g)) - i; (simp only [lens]; omega))
  · intro h42q e43; refine AW.kpU [1, 2, 5] [8] [] [] ?_; refine AW.exit ?_; refine AW.meet n1 (by kernel_rfl) ⟨?_, e43⟩; first | have := pow5 hI0.2; omega | (dsimp only; have := pow5 hI0.2; omega) | (show 0 ≤ n1 ∧ n1 ≤ 1000000000000000; have := pow5 hI0.2; omega)
 ·
  intro n1 hJ0 e44; replace hJ0 : 0 ≤ n1 ∧ n1 ≤ 1000000000000000 := hJ0; have e45 := e0.trans (Go.Am.then_eq e44); (first | dsimp only at e45 | skip); refine AW.seq (AW.seq (AW.r1U hC [1, 2, 5, 7] [8] [(7, .int .i64 0)] [] ?_)); refine AW.lpB (ζ := Int) (fun x => ⟨[(5, .int .i64 x)], []⟩) (fun x => 0 ≤ x ∧ x ≤ 1000000000000000) (fun x => x) (α := Int × Nat) (fun x => ⟨[(1, .int .i64 mask), (2, .ref 8 1 0), (5, .int .i64 x.1), (7, .int .i64 ((x.2 : Nat) : Int))], [(8, .box 1 [.data (.slice (.int .i64)) ((Graph.Rows g) : List Int), .data (.slice (.named 0)) ((Graph.Edges g) : List Edge)])]⟩) (fun x => 0 ≤ x.1 ∧ x.1 ≤ 1000000000000000) (fun x => (List.length (Graph.Edges g)) - x.2) (fun k x => subsetSize_l1 g mask k x.1 x.2) (n1, 0) (by kernel_rfl) ?_ ?_ ?_
  · first | exact hJ0 | (dsimp only; exact hJ0) | (show 0 ≤ n1 ∧ n1 ≤ 1000000000000000; exact hJ0)
  ·
   intro x k72q hI1 hk70 e71; obtain ⟨n, i⟩ := x; (first | dsimp only at e71 | skip); replace hI1 : 0 ≤ n ∧ n ≤ 1000000000000000 := hI1; have he := fun (h : i < g.Edges.length) => hV.edges _ (getD_mem g.Edges i Edge.zero h); have hn6 := hV.e6; have hn5 := hV.n5; refine AW.seq (AW.seq (AW.r1U hC [1, 2, 5, 7, 29] [8] [(29, .bool (decide (((i : Nat) : Int) < ((List.length (Graph.Edges g) : Nat) : Int))))] [] ?_)); refine AW.cdE e71 ?_ ?_
   ·
    intro h73q e74; refine AW.kpU [1, 2, 5, 7] [8] [] [] ?_; refine AW.skip (AW.seq (AW.block (AW.seq (AW.r0U hC [1, 2, 5, 7, 49] [8] [(49, .bool (bif (has mask (Edge.A (List.getD (Graph.Edges g) i Edge.zero))) then (has mask (Edge.B (List.getD (Graph.Edges g) i Edge.zero))) else false))] [] [(0 ≤ ((i : Nat) : Int) ∧ ((i : Nat) : Int) < ((List.length (Graph.Edges g) : Nat) : Int)), (0 ≤ mask ∧ (0 ≤ (Edge.A (List.getD (Graph.Edges g) i Edge.zero)) ∧ (Edge.A (List.getD (Graph.Edges g) i Edge.zero)) ≤ 64)), (((has mask (Edge.A (List.getD (Graph.Edges g) i Edge.zero))) = true) → (((has mask (Edge.A (List.getD (Graph.Edges g) i Edge.zero))) = true))), (((has mask (Edge.A (List.getD (Graph.Edges g) i Edge.zero))) = true) → (((has mask (Edge.A (List.getD (Graph.Edges g) i Edge.zero))) = true))), (((has mask (Edge.A (List.getD (Graph.Edges g) i Edge.zero))) = true) → (((has mask (Edge.A (List.getD (Graph.Edges g) i Edge.zero))) = true))), (((has mask (Edge.A (List.getD (Graph.Edges g) i Edge.zero))) = true) → (0 ≤ ((i : Nat) : Int) ∧ ((i : Nat) : Int) < ((List.length (Graph.Edges g) : Nat) : Int))), (((has mask (Edge.A (List.getD (Graph.Edges g) i Edge.zero))) = true) → (((has mask (Edge.A (List.getD (Graph.Edges g) i Edge.zero))) = true))), (((has mask (Edge.A (List.getD (Graph.Edges g) i Edge.zero))) = true) → (((has mask (Edge.A (List.getD (Graph.Edges g) i Edge.zero))) = true))), (((has mask (Edge.A (List.getD (Graph.Edges g) i Edge.zero))) = true) → (((has mask (Edge.A (List.getD (Graph.Edges g) i Edge.zero))) = true))), (((has mask (Edge.A (List.getD (Graph.Edges g) i Edge.zero))) = true) → (((has mask (Edge.A (List.getD (Graph.Edges g) i Edge.zero))) = true))), (((has mask (Edge.A (List.getD (Graph.Edges g) i Edge.zero))) = true) → (0 ≤ mask ∧ (0 ≤ (Edge.B (List.getD (Graph.Edges g) i Edge.zero)) ∧ (Edge.B (List.getD (Graph.Edges g) i Edge.zero)) ≤ 64))), (((has mask (Edge.A (List.getD (Graph.Edges g) i Edge.zero))) = true) → (((has mask (Edge.A (List.getD (Graph.Edges g) i Edge.zero))) = true)))] ?_ ?_))))
    ·
     refine ⟨?_, ?_, ?_, ?_, ?_, ?_, ?_, ?_, ?_, ?_, ?_, ?_, trivial⟩
     · first | (omega) | ((have h := he (by omega); omega))
     · first | (omega) | ((have h := he (by omega); omega))
     · first | (intro g75; assumption) | (intro g75; exact ⟨by assumption, by assumption⟩) | (intro g75; (have g75p0 : (has mask (Edge.A (List.getD (Graph.Edges g) i Edge.zero))) = true := g75); assumption) | (intro g75; (have g75p0 : (has mask (Edge.A (List.getD (Graph.Edges g) i Edge.zero))) = true := g75); exact ⟨by assumption, by assumption⟩)
     · first | (intro g76; assumption) | (intro g76; exact ⟨by assumption, by assumption⟩) | (intro g76; (have g76p0 : (has mask (Edge.A (List.getD (Graph.Edges g) i Edge.zero))) = true := g76); assumption) | (intro g76; (have g76p0 : (has mask (Edge.A (List.getD (Graph.Edges g) i Edge.zero))) = true := g76); exact ⟨by assumption, by assumption⟩)
     · first | (intro g77; assumption) | (intro g77; exact ⟨by assumption, by assumption⟩) | (intro g77; (have g77p0 : (has mask (Edge.A (List.getD (Graph.Edges g) i Edge.zero))) = true := g77); assumption) | (intro g77; (have g77p0 : (has mask (Edge.A (List.getD (Graph.Edges g) i Edge.zero))) = true := g77); exact ⟨by assumption, by assumption⟩)
     · first | (intro g78; omega) | (intro g78; (have h := he (by omega); omega)) | (intro g78; (have g78p0 : (has mask (Edge.A (List.getD (Graph.Edges g) i Edge.zero))) = true := g78); omega) | (intro g78; (have g78p0 : (has mask (Edge.A (List.getD (Graph.Edges g) i Edge.zero))) = true := g78); (have h := he (by omega); omega))
     · first | (intro g79; assumption) | (intro g79; exact ⟨by assumption, by assumption⟩) | (intro g79; (have g79p0 : (has mask (Edge.A (List.getD (Graph.Edges g) i Edge.zero))) = true := g79); assumption) | (intro g79; (have g79p0 : (has mask (Edge.A (List.getD (Graph.Edges g) i Edge.zero))) = true := g79); exact ⟨by assumption, by assumption⟩)
     · first | (intro g80; assumption) | (intro g80; exact ⟨by assumption, by assumption⟩) | (intro g80; (have g80p0 : (has mask (Edge.A (List.getD (Graph.Edges g) i Edge.zero))) = true := g80); assumption) | (intro g80; (have g80p0 : (has mask (Edge.A (List.getD (Graph.Edges g) i Edge.zero))) = true := g80); exact ⟨by assumption, by assumption⟩)
     · first | (intro g81; assumption) | (intro g81; exact ⟨by assumption, by assumption⟩) | (intro g81; (have g81p0 : (has mask (Edge.A (List.getD (Graph.Edges g) i Edge.zero))) = true := g81); assumption) | (intro g81; (have g81p0 : (has mask (Edge.A (List.getD (Graph.Edges g) i Edge.zero))) = true := g81); exact ⟨by assumption, by assumption⟩)
     · first | (intro g82; assumption) | (intro g82; exact ⟨by assumption, by assumption⟩) | (intro g82; (have g82p0 : (has mask (Edge.A (List.getD (Graph.Edges g) i Edge.zero))) = true := g82); assumption) | (intro g82; (have g82p0 : (has mask (Edge.A (List.getD (Graph.Edges g) i Edge.zero))) = true := g82); exact ⟨by assumption, by assumption⟩)
     · first | (intro g83; omega) | (intro g83; (have h := he (by omega); omega)) | (intro g83; (have g83p0 : (has mask (Edge.A (List.getD (Graph.Edges g) i Edge.zero))) = true := g83); omega) | (intro g83; (have g83p0 : (has mask (Edge.A (List.getD (Graph.Edges g) i Edge.zero))) = true := g83); (have h := he (by omega); omega))
     · first | (intro g84; assumption) | (intro g84; exact ⟨by assumption, by assumption⟩) | (intro g84; (have g84p0 : (has mask (Edge.A (List.getD (Graph.Edges g) i Edge.zero))) = true := g84); assumption) | (intro g84; (have g84p0 : (has mask (Edge.A (List.getD (Graph.Edges g) i Edge.zero))) = true := g84); exact ⟨by assumption, by assumption⟩)
    refine AW.cdE e74 ?_ ?_
    ·
     intro h85q e86; refine AW.r0U hC [1, 2, 5, 7] [8] [(5, .int .i64 (n / (Edge.Den (List.getD (Graph.Edges g) i Edge.zero))))] [] [(0 ≤ ((i : Nat) : Int) ∧ ((i : Nat) : Int) < ((List.length (Graph.Edges g) : Nat) : Int)), (0 ≤ n ∧ 0 < (Edge.Den (List.getD (Graph.Edges g) i Edge.zero)))] ?_ ?_
     ·
      refine ⟨?_, ?_, trivial⟩
      · first | (omega) | ((have h := he (by omega); omega))
      · first | (omega) | ((have h := he (by omega); omega))
     refine AW.r0U hC [1, 2, 5, 7] [8] [(7, .int .i64 ((i + 1 : Nat) : Int))] [] [(-9223372036854775808 ≤ ((i + 1 : Nat) : Int) ∧ ((i + 1 : Nat) : Int) ≤ 9223372036854775807)] ?_ ?_
     ·
      refine ⟨?_, trivial⟩
      · first | (omega) | ((dsimp only; omega)) | ((simp only [lens] at *; omega))
     refine AW.bk ((n / (Edge.Den (List.getD (Graph.Edges g) i Edge.zero))), i + 1) e86 hk70 ?_ ?_
     · first | have := divs hI1.1 (he (by omega)).2.2.2.1; omega | (dsimp only; have := divs hI1.1 (he (by omega)).2.2.2.1; omega) | (show 0 ≤ (n / (Edge.Den (List.getD (Graph.Edges g) i Edge.zero))) ∧ (n / (Edge.Den (List.getD (Graph.Edges g) i Edge.zero))) ≤ 1000000000000000; have := divs hI1.1 (he (by omega)).2.2.2.1; omega)
     · first | omega | (simp only [lens]; omega) | (dsimp only; omega) | (dsimp only; (simp only [lens]; omega)) | (show (List.length (Graph.Edges g)) - (i + 1) < (List.length (Graph.Edges g)) - i; omega) | (show (List.length (Graph.Edges g)) - (i + 1) < (List.length (Graph.Edges g)) - i; (simp only [lens]; omega))
    ·
     intro h87q e88; refine AW.kpU [1, 2, 5, 7] [8] [] [] ?_; refine AW.skip (AW.r0U hC [1, 2, 5, 7] [8] [(7, .int .i64 ((i + 1 : Nat) : Int))] [] [(-9223372036854775808 ≤ ((i + 1 : Nat) : Int) ∧ ((i + 1 : Nat) : Int) ≤ 9223372036854775807)] ?_ ?_)
     ·
      refine ⟨?_, trivial⟩
      · first | (omega) | ((dsimp only; omega)) | ((simp only [lens] at *; omega))
     refine AW.bk (n, i + 1) e88 hk70 ?_ ?_
     · first | exact hI1 | (dsimp only; exact hI1) | (show 0 ≤ n ∧ n ≤ 1000000000000000; exact hI1)
     · first | omega | (simp only [lens]; omega) | (dsimp only; omega) | (dsimp only; (simp only [lens]; omega)) | (show (List.length (Graph.Edges g)) - (i + 1) < (List.length (Graph.Edges g)) - i; omega) | (show (List.length (Graph.Edges g)) - (i + 1) < (List.length (Graph.Edges g)) - i; (simp only [lens]; omega))
   · intro h89q e90; refine AW.kpU [5] [] [] [] ?_; refine AW.exit ?_; refine AW.meet n (by kernel_rfl) ⟨?_, e90⟩; first | exact hI1 | (dsimp only; exact hI1) | (show 0 ≤ n ∧ n ≤ 1000000000000000; exact hI1)
  · intro n hJ1 e91; replace hJ1 : 0 ≤ n ∧ n ≤ 1000000000000000 := hJ1; have e92 := e45.trans (Go.Am.then_eq e91); (first | dsimp only at e92 | skip); refine AW.seq (AW.r1 hC [4] [] ⟨[(4, .int .i64 (if 1 > n then 1 else n))], []⟩ ?_); exact AW.ret (AW.retE (β := Int) (fun v => [⟨(.int .i64), v⟩]) (fun v => []) (v := (if 1 > n then 1 else n)) e92 (by kernel_rfl) rfl rfl)

def szIntS (a : List Int) (left : Int) : Int := (bif (decide ((left - ((List.length a : Nat) : Int)) < 0)) then (-1) else (left - ((List.length a : Nat) : Int)))

def szIntS_sp : FnSpec := mkSpec [.val (.slice (.int .i64)), .val (.int .i64)] [.val (.int .i64)] (fun (a : List Int) (left : Int) => 0 ≤ left) (fun (a : List Int) (left : Int) => [⟨(.int .i64), (szIntS a left)⟩])

theorem szIntS_ok : FnOK Try.prog 30 szIntS_sp := by
 have hC : CtxOK Try.prog (mkCtx tyL []) := CtxOK.nil tyOK; refine FnOK.of_body Try.func30 (by kernel_rfl) rfl (C := (mkCtx tyL [])) hC.ty (by kernel_rfl) ?_; intro (a : List Int) (left : Int) hwf hpre E; have hpre : 0 ≤ left := hpre; have hw_a : Wf ⟨(.slice (.int .i64)), (a : List Int)⟩ := hwf _ (List.Mem.head _); have hl_a : ((List.length a : Nat) : Int) ≤ 9223372036854775807 := hw_a.len; have hw_left : Wf ⟨(.int .i64), (left : Int)⟩ := hwf _ (List.Mem.tail _ (List.Mem.head _)); have hr_left : -9223372036854775808 ≤ left ∧ left ≤ 9223372036854775807 := hw_left.int_inv; have e0 : szIntS a left = szIntS a left := rfl; refine AW.seq (AW.r1U hC [0, 1] [] [] [] ?_); refine AW.seq (AW.r0 hC [1] [] ⟨[(1, .int .i64 (left - ((List.length a : Nat) : Int)))], []⟩ [(-9223372036854775808 ≤ (left - ((List.length a : Nat) : Int)) ∧ (left - ((List.length a : Nat) : Int)) ≤ 9223372036854775807)] ?_ ?_)
 ·
  refine ⟨?_, trivial⟩
  · first | (omega) | ((dsimp only; omega)) | ((simp only [lens] at *; omega))
 refine AW.seq (AW.seq (AW.r1U hC [1, 10] [] [(10, .bool (decide ((left - ((List.length a : Nat) : Int)) < 0)))] [] ?_)); refine AW.cdE e0 ?_ ?_
 · intro h1q e2; refine AW.seq (AW.r1 hC [4] [] ⟨[(4, .int .i64 (-1))], []⟩ ?_); exact AW.ret (AW.retE (β := Int) (fun v => [⟨(.int .i64), v⟩]) (fun v => []) (v := (-1)) e2 (by kernel_rfl) rfl rfl)
 · intro h3q e4; refine AW.kpU [1] [] [] [] ?_; refine AW.skip (AW.seq (AW.r1 hC [4] [] ⟨[(4, .int .i64 (left - ((List.length a : Nat) : Int)))], []⟩ ?_)); exact AW.ret (AW.retE (β := Int) (fun v => [⟨(.int .i64), v⟩]) (fun v => []) (v := (left - ((List.length a : Nat) : Int))) e4 (by kernel_rfl) rfl rfl)

def szEdgeS (a : List Edge) (left : Int) : Int := (bif (decide ((left - ((List.length a : Nat) : Int)) < 0)) then (-1) else (left - ((List.length a : Nat) : Int)))

def szEdgeS_sp : FnSpec := mkSpec [.val (.slice (.named 0)), .val (.int .i64)] [.val (.int .i64)] (fun (a : List Edge) (left : Int) => 0 ≤ left) (fun (a : List Edge) (left : Int) => [⟨(.int .i64), (szEdgeS a left)⟩])

theorem szEdgeS_ok : FnOK Try.prog 31 szEdgeS_sp := by
 have hC : CtxOK Try.prog (mkCtx tyL []) := CtxOK.nil tyOK; refine FnOK.of_body Try.func31 (by kernel_rfl) rfl (C := (mkCtx tyL [])) hC.ty (by kernel_rfl) ?_; intro (a : List Edge) (left : Int) hwf hpre E; have hpre : 0 ≤ left := hpre; have hw_a : Wf ⟨(.slice (.named 0)), (a : List Edge)⟩ := hwf _ (List.Mem.head _); have hl_a : ((List.length a : Nat) : Int) ≤ 9223372036854775807 := hw_a.len; have hw_left : Wf ⟨(.int .i64), (left : Int)⟩ := hwf _ (List.Mem.tail _ (List.Mem.head _)); have hr_left : -9223372036854775808 ≤ left ∧ left ≤ 9223372036854775807 := hw_left.int_inv; have e0 : szEdgeS a left = szEdgeS a left := rfl; refine AW.seq (AW.r1U hC [0, 1] [] [] [] ?_); refine AW.seq (AW.r0 hC [1] [] ⟨[(1, .int .i64 (left - ((List.length a : Nat) : Int)))], []⟩ [(-9223372036854775808 ≤ (left - ((List.length a : Nat) : Int)) ∧ (left - ((List.length a : Nat) : Int)) ≤ 9223372036854775807)] ?_ ?_)
 ·
  refine ⟨?_, trivial⟩
  · first | (omega) | ((dsimp only; omega)) | ((simp only [lens] at *; omega))
 refine AW.seq (AW.seq (AW.r1U hC [1, 10] [] [(10, .bool (decide ((left - ((List.length a : Nat) : Int)) < 0)))] [] ?_)); refine AW.cdE e0 ?_ ?_
 · intro h1q e2; refine AW.seq (AW.r1 hC [4] [] ⟨[(4, .int .i64 (-1))], []⟩ ?_); exact AW.ret (AW.retE (β := Int) (fun v => [⟨(.int .i64), v⟩]) (fun v => []) (v := (-1)) e2 (by kernel_rfl) rfl rfl)
 · intro h3q e4; refine AW.kpU [1] [] [] [] ?_; refine AW.skip (AW.seq (AW.r1 hC [4] [] ⟨[(4, .int .i64 (left - ((List.length a : Nat) : Int)))], []⟩ ?_)); exact AW.ret (AW.retE (β := Int) (fun v => [⟨(.int .i64), v⟩]) (fun v => []) (v := (left - ((List.length a : Nat) : Int))) e4 (by kernel_rfl) rfl rfl)

def szGraph (a : Graph) (left : Int) : Int := (bif (decide ((szIntS (Graph.Rows a) left) < 0)) then (-1) else (bif (decide ((szEdgeS (Graph.Edges a) (szIntS (Graph.Rows a) left)) < 0)) then (-1) else (szEdgeS (Graph.Edges a) (szIntS (Graph.Rows a) left))))

def szGraph_sp : FnSpec := mkSpec [.val (.named 1), .val (.int .i64)] [.val (.int .i64)] (fun (a : Graph) (left : Int) => 0 ≤ left) (fun (a : Graph) (left : Int) => [⟨(.int .i64), (szGraph a left)⟩])

theorem szGraph_ok : FnOK Try.prog 11 szGraph_sp := by
 have hC : CtxOK Try.prog (mkCtx tyL [(30, szIntS_sp), (31, szEdgeS_sp)]) := CtxOK.cons szIntS_ok (CtxOK.cons szEdgeS_ok (CtxOK.nil tyOK)); refine FnOK.of_body Try.func11 (by kernel_rfl) rfl (C := (mkCtx tyL [(30, szIntS_sp), (31, szEdgeS_sp)])) hC.ty (by kernel_rfl) ?_; intro (a : Graph) (left : Int) hwf hpre E; have hpre : 0 ≤ left := hpre; have hw_a : Wf ⟨(.named 1), (a : Graph)⟩ := hwf _ (List.Mem.head _); have hl_a_Rows : ((List.length (Graph.Rows a) : Nat) : Int) ≤ 9223372036854775807 := (hw_a.field (tv := ⟨(.slice (.int .i64)), Graph.Rows a⟩) (List.Mem.head _)).len; have hl_a_Edges : ((List.length (Graph.Edges a) : Nat) : Int) ≤ 9223372036854775807 := (hw_a.field (tv := ⟨(.slice (.named 0)), Graph.Edges a⟩) (List.Mem.tail _ (List.Mem.head _))).len; have hw_left : Wf ⟨(.int .i64), (left : Int)⟩ := hwf _ (List.Mem.tail _ (List.Mem.head _)); have hr_left : -9223372036854775808 ≤ left ∧ left ≤ 9223372036854775807 := hw_left.int_inv; have e0 : szGraph a left = szGraph a left := rfl; refine AW.seq (AW.r1U hC [1, 2] [8] [(2, .ref 8 1 0)] [(8, .box 1 [.data (.slice (.int .i64)) ((Graph.Rows a) : List Int), .data (.slice (.named 0)) ((Graph.Edges a) : List Edge)])] ?_); refine AW.seq (AW.r0U hC [1, 2] [8] [(1, .int .i64 (szIntS (Graph.Rows a) left))] [] [(0 ≤ left)] ?_ ?_)
 ·
  refine ⟨?_, trivial⟩
  · first | (omega) | ((dsimp only; omega)) | ((simp only [lens] at *; omega))
 refine AW.seq (AW.seq (AW.r1U hC [1, 2, 10] [8] [(10, .bool (decide ((szIntS (Graph.Rows a) left) < 0)))] [] ?_)); refine AW.cdE e0 ?_ ?_
 · intro h1q e2; refine AW.seq (AW.r1 hC [4] [] ⟨[(4, .int .i64 (-1))], []⟩ ?_); exact AW.ret (AW.retE (β := Int) (fun v => [⟨(.int .i64), v⟩]) (fun v => []) (v := (-1)) e2 (by kernel_rfl) rfl rfl)
 ·
  intro h3q e4; refine AW.kpU [1, 2] [8] [] [] ?_; refine AW.skip (AW.seq (AW.r0 hC [1] [] ⟨[(1, .int .i64 (szEdgeS (Graph.Edges a) (szIntS (Graph.Rows a) left)))], []⟩ [(0 ≤ (szIntS (Graph.Rows a) left))] ?_ ?_))
  ·
   refine ⟨?_, trivial⟩
   · first | (omega) | ((dsimp only; omega)) | ((simp only [lens] at *; omega))
  refine AW.seq (AW.seq (AW.r1U hC [1, 16] [] [(16, .bool (decide ((szEdgeS (Graph.Edges a) (szIntS (Graph.Rows a) left)) < 0)))] [] ?_)); refine AW.cdE e4 ?_ ?_
  · intro h5q e6; refine AW.seq (AW.r1 hC [4] [] ⟨[(4, .int .i64 (-1))], []⟩ ?_); exact AW.ret (AW.retE (β := Int) (fun v => [⟨(.int .i64), v⟩]) (fun v => []) (v := (-1)) e6 (by kernel_rfl) rfl rfl)
  · intro h7q e8; refine AW.kpU [1] [] [] [] ?_; refine AW.skip (AW.seq (AW.r1 hC [4] [] ⟨[(4, .int .i64 (szEdgeS (Graph.Edges a) (szIntS (Graph.Rows a) left)))], []⟩ ?_)); exact AW.ret (AW.retE (β := Int) (fun v => [⟨(.int .i64), v⟩]) (fun v => []) (v := (szEdgeS (Graph.Edges a) (szIntS (Graph.Rows a) left))) e8 (by kernel_rfl) rfl rfl)

def toIntS_l0 (a : List Int) : Nat → Nat → (List Int) → (List Int)
 | 0, i, out => out
 | k + 1, i, out => (bif (decide (((i : Nat) : Int) < ((List.length a : Nat) : Int))) then (toIntS_l0 a k (i + 1) (List.set out i (List.getD a i 0))) else out)

def toIntS (a : List Int) : (List Int) := (Go.Am.andThen (toIntS_l0 a ((List.length a) - 0 + 1) 0 (List.replicate (List.length a) 0 : List Int)) (fun z => (fun (out : List Int) => out) z))

def toIntS_sp : FnSpec := mkSpec [.val (.slice (.int .i64))] [.own (.int .i64)] (fun (a : List Int) => (List.length a : Int) ≤ 1048576) (fun (a : List Int) => [⟨(.slice (.int .i64)), (toIntS a)⟩])

theorem toIntS_ok : FnOK Try.prog 32 toIntS_sp := by
 have hC : CtxOK Try.prog (mkCtx tyL []) := CtxOK.nil tyOK; refine FnOK.of_body Try.func32 (by kernel_rfl) rfl (C := (mkCtx tyL [])) hC.ty (by kernel_rfl) ?_; intro (a : List Int) hwf hpre E; have hpre : (List.length a : Int) ≤ 1048576 := hpre; have hw_a : Wf ⟨(.slice (.int .i64)), (a : List Int)⟩ := hwf _ (List.Mem.head _); have hl_a : ((List.length a : Nat) : Int) ≤ 9223372036854775807 := hw_a.len; have e0 : toIntS a = toIntS a := rfl; refine AW.seq (AW.r1U hC [0] [] [] [] ?_); refine AW.seq (AW.r0U hC [0, 3] [28] [(3, .arr 28 1)] [(28, .arr 1 (.int .i64) ((List.replicate (List.length a) 0 : List Int) : List Int))] [(0 ≤ ((List.length a : Nat) : Int) ∧ ((List.length a : Nat) : Int) ≤ ((List.length a : Nat) : Int) ∧ ((List.length a : Nat) : Int) ≤ 4294967296)] ?_ ?_)
 ·
  refine ⟨?_, trivial⟩
  · first | (omega) | ((dsimp only; omega)) | ((simp only [lens] at *; omega))
 refine AW.seq (AW.seq (AW.r1U hC [0, 3, 4] [28] [(4, .int .i64 0)] [] ?_)); refine AW.lpB (ζ := (List Int)) (fun x => ⟨[(3, .arr 28 1)], [(28, .arr 1 (.int .i64) (x : List Int))]⟩) (fun x => x.length = (List.length a)) (fun x => x) (α := Nat × (List Int)) (fun x => ⟨[(0, .data (.slice (.int .i64)) (a : List Int)), (3, .arr 28 1), (4, .int .i64 ((x.1 : Nat) : Int))], [(28, .arr 1 (.int .i64) (x.2 : List Int))]⟩) (fun x => x.2.length = (List.length a)) (fun x => (List.length a) - x.1) (fun k x => toIntS_l0 a k x.1 x.2) (0, (List.replicate (List.length a) 0 : List Int)) (by kernel_rfl) ?_ ?_ ?_
 · first | exact trivial | (refine ⟨?_, ?_⟩ <;> first | omega | (simp; done)) | omega | (simp; done) | (dsimp only; exact trivial) | (dsimp only; (refine ⟨?_, ?_⟩ <;> first | omega | (simp; done))) | (dsimp only; omega) | (dsimp only; (simp; done)) | (show (List.replicate (List.length a) 0 : List Int).length = (List.length a); exact trivial) | (show (List.replicate (List.length a) 0 : List Int).length = (List.length a); (refine ⟨?_, ?_⟩ <;> first | omega | (simp; done))) | (show (List.replicate (List.length a) 0 : List Int).length = (List.length a); omega) | (show (List.replicate (List.length a) 0 : List Int).length = (List.length a); (simp; done))
 ·
  intro x k15q hI0 hk13 e14; obtain ⟨i, out⟩ := x; (first | dsimp only at e14 | skip); replace hI0 : out.length = (List.length a) := hI0; refine AW.seq (AW.seq (AW.r1U hC [0, 3, 4, 11] [28] [(11, .bool (decide (((i : Nat) : Int) < ((List.length a : Nat) : Int))))] [] ?_)); refine AW.cdE e14 ?_ ?_
  ·
   intro h16q e17; refine AW.kpU [0, 3, 4] [28] [] [] ?_; refine AW.skip (AW.seq (AW.block (AW.r0U hC [0, 3, 4] [28] [] [(28, .arr 1 (.int .i64) ((List.set out i (List.getD a i 0)) : List Int))] [(0 ≤ ((i : Nat) : Int) ∧ ((i : Nat) : Int) < ((List.length a : Nat) : Int)), (0 ≤ ((i : Nat) : Int) ∧ ((i : Nat) : Int) < ((List.length out : Nat) : Int))] ?_ ?_)))
   ·
    refine ⟨?_, ?_, trivial⟩
    · first | (omega) | ((dsimp only; omega)) | ((simp only [lens] at *; omega))
    · first | (omega) | ((dsimp only; omega)) | ((simp only [lens] at *; omega))
   refine AW.r0U hC [0, 3, 4] [28] [(4, .int .i64 ((i + 1 : Nat) : Int))] [] [(-9223372036854775808 ≤ ((i + 1 : Nat) : Int) ∧ ((i + 1 : Nat) : Int) ≤ 9223372036854775807)] ?_ ?_
   ·
    refine ⟨?_, trivial⟩
    · first | (omega) | ((dsimp only; omega)) | ((simp only [lens] at *; omega))
   refine AW.bk (i + 1, (List.set out i (List.getD a i 0))) e17 hk13 ?_ ?_
   · first | assumption | exact trivial | (refine ⟨?_, ?_⟩ <;> first | omega | (simp only [lens] at *; omega)) | omega | (simp only [lens] at *; omega) | (dsimp only; assumption) | (dsimp only; exact trivial) | (dsimp only; (refine ⟨?_, ?_⟩ <;> first | omega | (simp only [lens] at *; omega))) | (dsimp only; omega) | (dsimp only; (simp only [lens] at *; omega)) | (show (List.set out i (List.getD a i 0)).length = (List.length a); assumption) | (show (List.set out i (List.getD a i 0)).length = (List.length a); exact trivial) | (show (List.set out i (List.getD a i 0)).length = (List.length a); (refine ⟨?_, ?_⟩ <;> first | omega | (simp only [lens] at *; omega))) | (show (List.set out i (List.getD a i 0)).length = (List.length a); omega) | (show (List.set out i (List.getD a i 0)).length = (List.length a); (simp only [lens] at *; omega))
   · first | omega | (simp only [lens]; omega) | (dsimp only; omega) | (dsimp only; (simp only [lens]; omega)) | (show (List.length a) - (i + 1) < (List.length a) - i; omega) | (show (List.length a) - (i + 1) < (List.length a) - i; (simp only [lens]; omega))
  · intro h18q e19; refine AW.kpU [3] [28] [] [] ?_; refine AW.exit ?_; refine AW.meet out (by kernel_rfl) ⟨?_, e19⟩; first | assumption | exact trivial | omega | (dsimp only; assumption) | (dsimp only; exact trivial) | (dsimp only; omega) | (show out.length = (List.length a); assumption) | (show out.length = (List.length a); exact trivial) | (show out.length = (List.length a); omega)
 · intro out hJ0 e20; replace hJ0 : out.length = (List.length a) := hJ0; have e21 := e0.trans (Go.Am.then_eq e20); (first | dsimp only at e21 | skip); refine AW.seq (AW.r1U hC [2] [28] [(2, .arr 28 1)] [] ?_); exact AW.ret (AW.retE (β := (List Int)) (fun v => [⟨(.slice (.int .i64)), v⟩]) (fun v => []) (v := out) e21 (by kernel_rfl) rfl rfl)

def toEdge (a : Edge) : Edge := a

def toEdge_sp : FnSpec := mkSpec [.val (.named 0)] [.val (.named 0)] (fun (a : Edge) => True) (fun (a : Edge) => [⟨(.named 0), (toEdge a)⟩])

theorem toEdge_ok : FnOK Try.prog 43 toEdge_sp := by
 have hC : CtxOK Try.prog (mkCtx tyL []) := CtxOK.nil tyOK; refine FnOK.of_body Try.func43 (by kernel_rfl) rfl (C := (mkCtx tyL [])) hC.ty (by kernel_rfl) ?_; intro (a : Edge) hwf hpre E; have hpre : True := hpre; have hw_a : Wf ⟨(.named 0), (a : Edge)⟩ := hwf _ (List.Mem.head _); have hr_a_A : -9223372036854775808 ≤ Edge.A a ∧ Edge.A a ≤ 9223372036854775807 := (hw_a.field (tv := ⟨(.int .i64), Edge.A a⟩) (List.Mem.head _)).int_inv; have hr_a_B : -9223372036854775808 ≤ Edge.B a ∧ Edge.B a ≤ 9223372036854775807 := (hw_a.field (tv := ⟨(.int .i64), Edge.B a⟩) (List.Mem.tail _ (List.Mem.head _))).int_inv; have hr_a_Den : -9223372036854775808 ≤ Edge.Den a ∧ Edge.Den a ≤ 9223372036854775807 := (hw_a.field (tv := ⟨(.int .i64), Edge.Den a⟩) (List.Mem.tail _ (List.Mem.tail _ (List.Mem.head _)))).int_inv; have e0 : toEdge a = toEdge a := rfl; refine AW.seq (AW.r1 hC [1, 2] [4, 8] ⟨[(1, .ref 4 1 0), (2, .ref 8 1 0)], [(4, .box 1 [.int .i64 (Edge.A a), .int .i64 (Edge.B a), .int .i64 (Edge.Den a)]), (8, .box 1 [.int .i64 0, .int .i64 0, .int .i64 0])]⟩ ?_); refine AW.seq (AW.r1U hC [1, 2, 3] [4, 8, 12] [(3, .ref 12 1 0)] [(12, .box 1 [.int .i64 0, .int .i64 0, .int .i64 0])] ?_); refine AW.seq (AW.r1U hC [1, 2, 3] [4, 8, 12] [] [(12, .box 1 [.int .i64 (Edge.A a), .int .i64 0, .int .i64 0])] ?_); refine AW.seq (AW.r1U hC [1, 2, 3] [4, 8, 12] [] [(12, .box 1 [.int .i64 (Edge.A a), .int .i64 (Edge.B a), .int .i64 0])] ?_); refine AW.seq (AW.r1U hC [2, 3] [8, 12] [] [(12, .box 1 [.int .i64 (Edge.A a), .int .i64 (Edge.B a), .int .i64 (Edge.Den a)])] ?_); refine AW.seq (AW.r1U hC [2] [8] [] [(8, .box 1 [.int .i64 (Edge.A a), .int .i64 (Edge.B a), .int .i64 (Edge.Den a)])] ?_); exact AW.ret (AW.retE (β := Edge) (fun v => [⟨(.named 0), v⟩]) (fun v => []) (v := a) e0 (by kernel_rfl) rfl rfl)

def toEdgeS_l0 (a : List Edge) : Nat → Nat → (List Edge) → (List Edge)
 | 0, i, out => out
 | k + 1, i, out => (bif (decide (((i : Nat) : Int) < ((List.length a : Nat) : Int))) then (toEdgeS_l0 a k (i + 1) (List.set out i (toEdge (List.getD a i Edge.zero)))) else out)

def toEdgeS (a : List Edge) : (List Edge) := (Go.Am.andThen (toEdgeS_l0 a ((List.length a) - 0 + 1) 0 (List.replicate (List.length a) Edge.zero : List Edge)) (fun z => (fun (out : List Edge) => out) z))

def toEdgeS_sp : FnSpec := mkSpec [.val (.slice (.named 0))] [.own (.named 0)] (fun (a : List Edge) => (List.length a : Int) ≤ 1048576) (fun (a : List Edge) => [⟨(.slice (.named 0)), (toEdgeS a)⟩])

theorem toEdgeS_ok : FnOK Try.prog 33 toEdgeS_sp := by
 have hC : CtxOK Try.prog (mkCtx tyL [(43, toEdge_sp)]) := CtxOK.cons toEdge_ok (CtxOK.nil tyOK); refine FnOK.of_body Try.func33 (by kernel_rfl) rfl (C := (mkCtx tyL [(43, toEdge_sp)])) hC.ty (by kernel_rfl) ?_; intro (a : List Edge) hwf hpre E; have hpre : (List.length a : Int) ≤ 1048576 := hpre; have hw_a : Wf ⟨(.slice (.named 0)), (a : List Edge)⟩ := hwf _ (List.Mem.head _); have hl_a : ((List.length a : Nat) : Int) ≤ 9223372036854775807 := hw_a.len; have e0 : toEdgeS a = toEdgeS a := rfl; refine AW.seq (AW.r1U hC [0] [] [] [] ?_); refine AW.seq (AW.r0U hC [0, 3] [28] [(3, .arr 28 1)] [(28, .arr 1 (.named 0) ((List.replicate (List.length a) Edge.zero : List Edge) : List Edge))] [(0 ≤ ((List.length a : Nat) : Int) ∧ ((List.length a : Nat) : Int) ≤ ((List.length a : Nat) : Int) ∧ ((List.length a : Nat) : Int) ≤ 4294967296)] ?_ ?_)
 ·
  refine ⟨?_, trivial⟩
  · first | (omega) | ((dsimp only; omega)) | ((simp only [lens] at *; omega))
 refine AW.seq (AW.seq (AW.r1U hC [0, 3, 4] [28] [(4, .int .i64 0)] [] ?_)); refine AW.lpB (ζ := (List Edge)) (fun x => ⟨[(3, .arr 28 1)], [(28, .arr 1 (.named 0) (x : List Edge))]⟩) (fun x => x.length = (List.length a)) (fun x => x) (α := Nat × (List Edge)) (fun x => ⟨[(0, .data (.slice (.named 0)) (a : List Edge)), (3, .arr 28 1), (4, .int .i64 ((x.1 : Nat) : Int))], [(28, .arr 1 (.named 0) (x.2 : List Edge))]⟩) (fun x => x.2.length = (List.length a)) (fun x => (List.length a) - x.1) (fun k x => toEdgeS_l0 a k x.1 x.2) (0, (List.replicate (List.length a) Edge.zero : List Edge)) (by kernel_rfl) ?_ ?_ ?_
 · first | exact trivial | (refine ⟨?_, ?_⟩ <;> first | omega | (simp; done)) | omega | (simp; done) | (dsimp only; exact trivial) | (dsimp only; (refine ⟨?_, ?_⟩ <;> first | omega | (simp; done))) | (dsimp only; omega) | (dsimp only; (simp; done)) | (show (List.replicate (List.length a) Edge.zero : List Edge).length = (List.length a); exact trivial) | (show (List.replicate (List.length a) Edge.zero : List Edge).length = (List.length a); (refine ⟨?_, ?_⟩ <;> first | omega | (simp; done))) | (show (List.replicate (List.length a) Edge.zero : List Edge).length = (List.length a); omega) | (show (List.replicate (List.length a) Edge.zero : List Edge).length = (List.length a); (simp; done))
 ·
  intro x k15q hI0 hk13 e14; obtain ⟨i, out⟩ := x; (first | dsimp only at e14 | skip); replace hI0 : out.length = (List.length a) := hI0; refine AW.seq (AW.seq (AW.r1U hC [0, 3, 4, 11] [28] [(11, .bool (decide (((i : Nat) : Int) < ((List.length a : Nat) : Int))))] [] ?_)); refine AW.cdE e14 ?_ ?_
  ·
   intro h16q e17; refine AW.kpU [0, 3, 4] [28] [] [] ?_; refine AW.skip (AW.seq (AW.block (AW.r0U hC [0, 3, 4] [28] [] [(28, .arr 1 (.named 0) ((List.set out i (toEdge (List.getD a i Edge.zero))) : List Edge))] [(0 ≤ ((i : Nat) : Int) ∧ ((i : Nat) : Int) < ((List.length a : Nat) : Int)), (True), (0 ≤ ((i : Nat) : Int) ∧ ((i : Nat) : Int) < ((List.length out : Nat) : Int))] ?_ ?_)))
   ·
    refine ⟨?_, ?_, ?_, trivial⟩
    · first | (omega) | ((dsimp only; omega)) | ((simp only [lens] at *; omega))
    · trivial
    · first | (omega) | ((dsimp only; omega)) | ((simp only [lens] at *; omega))
   refine AW.r0U hC [0, 3, 4] [28] [(4, .int .i64 ((i + 1 : Nat) : Int))] [] [(-9223372036854775808 ≤ ((i + 1 : Nat) : Int) ∧ ((i + 1 : Nat) : Int) ≤ 9223372036854775807)] ?_ ?_
   ·
    refine ⟨?_, trivial⟩
    · first | (omega) | ((dsimp only; omega)) | ((simp only [lens] at *; omega))
   refine AW.bk (i + 1, (List.set out i (toEdge (List.getD a i Edge.zero)))) e17 hk13 ?_ ?_
   · first | assumption | exact trivial | (refine ⟨?_, ?_⟩ <;> first | omega | (simp only [lens] at *; omega)) | omega | (simp only [lens] at *; omega) | (dsimp only; assumption) | (dsimp only; exact trivial) | (dsimp only; (refine ⟨?_, ?_⟩ <;> first | omega | (simp only [lens] at *; omega))) | (dsimp only; omega) | (dsimp only; (simp only [lens] at *; omega)) | (show (List.set out i (toEdge (List.getD a i Edge.zero))).length = (List.length a); assumption) | (show (List.set out i (toEdge (List.getD a i Edge.zero))).length = (List.length a); exact trivial) | (show (List.set out i (toEdge (List.getD a i Edge.zero))).length = (List.length a); (refine ⟨?_, ?_⟩ <;> first | omega | (simp only [lens] at *; omega))) | (show (List.set out i (toEdge (List.getD a i Edge.zero))).length = (List.length a); omega) | (show (List.set out i (toEdge (List.getD a i Edge.zero))).length = (List.length a); (simp only [lens] at *; omega))
   · first | omega | (simp only [lens]; omega) | (dsimp only; omega) | (dsimp only; (simp only [lens]; omega)) | (show (List.length a) - (i + 1) < (List.length a) - i; omega) | (show (List.length a) - (i + 1) < (List.length a) - i; (simp only [lens]; omega))
  · intro h18q e19; refine AW.kpU [3] [28] [] [] ?_; refine AW.exit ?_; refine AW.meet out (by kernel_rfl) ⟨?_, e19⟩; first | assumption | exact trivial | omega | (dsimp only; assumption) | (dsimp only; exact trivial) | (dsimp only; omega) | (show out.length = (List.length a); assumption) | (show out.length = (List.length a); exact trivial) | (show out.length = (List.length a); omega)
 · intro out hJ0 e20; replace hJ0 : out.length = (List.length a) := hJ0; have e21 := e0.trans (Go.Am.then_eq e20); (first | dsimp only at e21 | skip); refine AW.seq (AW.r1U hC [2] [28] [(2, .arr 28 1)] [] ?_); exact AW.ret (AW.retE (β := (List Edge)) (fun v => [⟨(.slice (.named 0)), v⟩]) (fun v => []) (v := out) e21 (by kernel_rfl) rfl rfl)

def toGraph (a : Graph) : Graph := (Graph.mk (toIntS (Graph.Rows a)) (toEdgeS (Graph.Edges a)))

def toGraph_sp : FnSpec := mkSpec [.val (.named 1)] [.val (.named 1)] (fun (a : Graph) => (List.length a.Rows : Int) ≤ 1048576 ∧ (List.length a.Edges : Int) ≤ 1048576) (fun (a : Graph) => [⟨(.named 1), (toGraph a)⟩])

theorem toGraph_ok : FnOK Try.prog 12 toGraph_sp := by
 have hC : CtxOK Try.prog (mkCtx tyL [(32, toIntS_sp), (33, toEdgeS_sp)]) := CtxOK.cons toIntS_ok (CtxOK.cons toEdgeS_ok (CtxOK.nil tyOK)); refine FnOK.of_body Try.func12 (by kernel_rfl) rfl (C := (mkCtx tyL [(32, toIntS_sp), (33, toEdgeS_sp)])) hC.ty (by kernel_rfl) ?_; intro (a : Graph) hwf hpre E; have hpre : (List.length a.Rows : Int) ≤ 1048576 ∧ (List.length a.Edges : Int) ≤ 1048576 := hpre; have hw_a : Wf ⟨(.named 1), (a : Graph)⟩ := hwf _ (List.Mem.head _); have hl_a_Rows : ((List.length (Graph.Rows a) : Nat) : Int) ≤ 9223372036854775807 := (hw_a.field (tv := ⟨(.slice (.int .i64)), Graph.Rows a⟩) (List.Mem.head _)).len; have hl_a_Edges : ((List.length (Graph.Edges a) : Nat) : Int) ≤ 9223372036854775807 := (hw_a.field (tv := ⟨(.slice (.named 0)), Graph.Edges a⟩) (List.Mem.tail _ (List.Mem.head _))).len; have e0 : toGraph a = toGraph a := rfl; refine AW.seq (AW.r1 hC [1, 2] [4, 8] ⟨[(1, .ref 4 1 0), (2, .ref 8 1 0)], [(4, .box 1 [.data (.slice (.int .i64)) ((Graph.Rows a) : List Int), .data (.slice (.named 0)) ((Graph.Edges a) : List Edge)]), (8, .box 1 [.nilsl, .nilsl])]⟩ ?_); refine AW.seq (AW.r1U hC [1, 2, 3] [4, 8, 12] [(3, .ref 12 1 0)] [(12, .box 1 [.nilsl, .nilsl])] ?_); refine AW.seq (AW.r0U hC [1, 2, 3] [4, 8, 12, 24] [] [(12, .box 1 [.arr 24 1, .nilsl]), (24, .arr 1 (.int .i64) ((toIntS (Graph.Rows a)) : List Int))] [((List.length (Graph.Rows a) : Int) ≤ 1048576)] ?_ ?_)
 ·
  refine ⟨?_, trivial⟩
  · first | (omega) | ((dsimp only; omega)) | ((simp only [lens] at *; omega))
 refine AW.seq (AW.r0U hC [2, 3] [8, 12, 24, 40] [] [(12, .box 1 [.arr 24 1, .arr 40 1]), (40, .arr 1 (.named 0) ((toEdgeS (Graph.Edges a)) : List Edge))] [((List.length (Graph.Edges a) : Int) ≤ 1048576)] ?_ ?_)
 ·
  refine ⟨?_, trivial⟩
  · first | (omega) | ((dsimp only; omega)) | ((simp only [lens] at *; omega))
 refine AW.seq (AW.r1U hC [2] [8, 24, 40] [] [(8, .box 1 [.arr 24 1, .arr 40 1])] ?_); exact AW.ret (AW.retE (β := Graph) (fun v => [⟨(.named 1), v⟩]) (fun v => []) (v := (Graph.mk (toIntS (Graph.Rows a)) (toEdgeS (Graph.Edges a)))) e0 (by kernel_rfl) rfl rfl)

def eqIntS_l0 (a : List Int) (b : List Int) : Nat → Nat → Unit ⊕ Bool
 | 0, i => .inl ()
 | k + 1, i => (bif (decide (((i : Nat) : Int) < ((List.length a : Nat) : Int))) then (bif ((List.getD a i 0) != (List.getD b i 0)) then (.inr false) else (eqIntS_l0 a b k (i + 1))) else (.inl ()))

def eqIntS (a : List Int) (b : List Int) : Bool := (bif (((List.length a : Nat) : Int) != ((List.length b : Nat) : Int)) then false else (Sum.elim (fun _ => true) (fun r => r) (eqIntS_l0 a b ((List.length a) - 0 + 1) 0)))

def eqIntS_sp : FnSpec := mkSpec [.val (.slice (.int .i64)), .val (.slice (.int .i64))] [.val .bool] (fun (a : List Int) (b : List Int) => True) (fun (a : List Int) (b : List Int) => [⟨.bool, (eqIntS a b)⟩])

theorem eqIntS_ok : FnOK Try.prog 13 eqIntS_sp := by
 have hC : CtxOK Try.prog (mkCtx tyL []) := CtxOK.nil tyOK; have hM : Try.prog.follows .mixedOrders = true := Try.checked.mixed; refine FnOK.of_body Try.func13 (by kernel_rfl) rfl (C := (mkCtx tyL [])) hC.ty (by kernel_rfl) ?_; intro (a : List Int) (b : List Int) hwf hpre E; have hpre : True := hpre; have hw_a : Wf ⟨(.slice (.int .i64)), (a : List Int)⟩ := hwf _ (List.Mem.head _); have hl_a : ((List.length a : Nat) : Int) ≤ 9223372036854775807 := hw_a.len; have hw_b : Wf ⟨(.slice (.int .i64)), (b : List Int)⟩ := hwf _ (List.Mem.tail _ (List.Mem.head _)); have hl_b : ((List.length b : Nat) : Int) ≤ 9223372036854775807 := hw_b.len; have e0 : eqIntS a b = eqIntS a b := rfl; refine AW.seq (AW.r1U hC [0, 1] [] [] [] ?_); refine AW.seq (AW.seq (AW.r1U hC [0, 1, 10] [] [(10, .bool (((List.length a : Nat) : Int) != ((List.length b : Nat) : Int)))] [] ?_)); refine AW.cdE e0 ?_ ?_
 · intro h1q e2; refine AW.seq (AW.r1 hC [4] [] ⟨[(4, .bool false)], []⟩ ?_); exact AW.ret (AW.retE (β := Bool) (fun v => [⟨.bool, v⟩]) (fun v => []) (v := false) e2 (by kernel_rfl) rfl rfl)
 ·
  intro h3q e4; refine AW.kpU [0, 1] [] [] [] ?_; refine AW.skip (AW.seq (AW.seq (AW.r1U hC [0, 1, 5] [] [(5, .int .i64 0)] [] ?_))); refine AW.lpB (ζ := Unit) (fun x => ⟨[], []⟩) (fun x => True) (fun x => (.inl ())) (α := Nat) (fun x => ⟨[(0, .data (.slice (.int .i64)) (a : List Int)), (1, .data (.slice (.int .i64)) (b : List Int)), (5, .int .i64 ((x : Nat) : Int))], []⟩) (fun x => True) (fun x => (List.length a) - x) (fun k x => eqIntS_l0 a b k x) 0 (by kernel_rfl) ?_ ?_ ?_
  · first | exact trivial | (refine ⟨?_, ?_⟩ <;> first | omega | (simp; done)) | omega | (simp; done) | (dsimp only; exact trivial) | (dsimp only; (refine ⟨?_, ?_⟩ <;> first | omega | (simp; done))) | (dsimp only; omega) | (dsimp only; (simp; done)) | (show True; exact trivial) | (show True; (refine ⟨?_, ?_⟩ <;> first | omega | (simp; done))) | (show True; omega) | (show True; (simp; done))
  ·
   intro i k34q hI0 hk32 e33; (first | dsimp only at e33 | skip); replace hI0 : True := hI0; refine AW.seq (AW.seq (AW.r1U hC [0, 1, 5, 14] [] [(14, .bool (decide (((i : Nat) : Int) < ((List.length a : Nat) : Int))))] [] ?_)); refine AW.cdE e33 ?_ ?_
   ·
    intro h35q e36; refine AW.kpU [0, 1, 5] [] [] [] ?_; refine AW.skip (AW.seq (AW.block (AW.seq (AW.d0U hC hM [0, 1, 5, 25] [] [(25, .bool ((List.getD a i 0) != (List.getD b i 0)))] [] [(0 ≤ ((i : Nat) : Int) ∧ ((i : Nat) : Int) < ((List.length a : Nat) : Int)), (0 ≤ ((i : Nat) : Int) ∧ ((i : Nat) : Int) < ((List.length b : Nat) : Int))] ?_ ?_))))
    ·
     refine ⟨?_, ?_, trivial⟩
     · first | (omega) | ((dsimp only; omega)) | ((simp only [lens] at *; omega))
     · first | (omega) | ((dsimp only; omega)) | ((simp only [lens] at *; omega))
    refine AW.cdE e36 ?_ ?_
    · intro h37q e38; refine AW.seq (AW.r1 hC [4] [] ⟨[(4, .bool false)], []⟩ ?_); refine AW.ret ?_; have e39 := e4.trans (Go.Am.elim_r e38); exact AW.retE (β := Bool) (fun v => [⟨.bool, v⟩]) (fun v => []) (v := false) e39 (by kernel_rfl) rfl rfl
    ·
     intro h40q e41; refine AW.kpU [0, 1, 5] [] [] [] ?_; refine AW.skip (AW.r0U hC [0, 1, 5] [] [(5, .int .i64 ((i + 1 : Nat) : Int))] [] [(-9223372036854775808 ≤ ((i + 1 : Nat) : Int) ∧ ((i + 1 : Nat) : Int) ≤ 9223372036854775807)] ?_ ?_)
     ·
      refine ⟨?_, trivial⟩
      · first | (omega) | ((dsimp only; omega)) | ((simp only [lens] at *; omega))
     refine AW.bk (i + 1) e41 hk32 ?_ ?_
     · first | assumption | exact trivial | (refine ⟨?_, ?_⟩ <;> first | omega | (simp only [lens] at *; omega)) | omega | (simp only [lens] at *; omega) | (dsimp only; assumption) | (dsimp only; exact trivial) | (dsimp only; (refine ⟨?_, ?_⟩ <;> first | omega | (simp only [lens] at *; omega))) | (dsimp only; omega) | (dsimp only; (simp only [lens] at *; omega)) | (show True; assumption) | (show True; exact trivial) | (show True; (refine ⟨?_, ?_⟩ <;> first | omega | (simp only [lens] at *; omega))) | (show True; omega) | (show True; (simp only [lens] at *; omega))
     · first | omega | (simp only [lens]; omega) | (dsimp only; omega) | (dsimp only; (simp only [lens]; omega)) | (show (List.length a) - (i + 1) < (List.length a) - i; omega) | (show (List.length a) - (i + 1) < (List.length a) - i; (simp only [lens]; omega))
   · intro h42q e43; refine AW.kp [] [] ⟨[], []⟩ ?_; refine AW.exit ?_; refine AW.meet () (by kernel_rfl) ⟨?_, e43⟩; first | assumption | exact trivial | omega | (dsimp only; assumption) | (dsimp only; exact trivial) | (dsimp only; omega) | (show True; assumption) | (show True; exact trivial) | (show True; omega)
  · intro x hJ0 e44; replace hJ0 : True := hJ0; have e45 := e4.trans (Go.Am.elim_l e44); (first | dsimp only at e45 | skip); refine AW.seq (AW.r1 hC [4] [] ⟨[(4, .bool true)], []⟩ ?_); exact AW.ret (AW.retE (β := Bool) (fun v => [⟨.bool, v⟩]) (fun v => []) (v := true) e45 (by kernel_rfl) rfl rfl)

def eqEdge (a : Edge) (b : Edge) : Bool := (bif ((Edge.A a) != (Edge.A b)) then false else (bif ((Edge.B a) != (Edge.B b)) then false else (bif ((Edge.Den a) != (Edge.Den b)) then false else true)))

def eqEdge_sp : FnSpec := mkSpec [.val (.named 0), .val (.named 0)] [.val .bool] (fun (a : Edge) (b : Edge) => True) (fun (a : Edge) (b : Edge) => [⟨.bool, (eqEdge a b)⟩])

theorem eqEdge_ok : FnOK Try.prog 44 eqEdge_sp := by
 have hC : CtxOK Try.prog (mkCtx tyL []) := CtxOK.nil tyOK; refine FnOK.of_body Try.func44 (by kernel_rfl) rfl (C := (mkCtx tyL [])) hC.ty (by kernel_rfl) ?_; intro (a : Edge) (b : Edge) hwf hpre E; have hpre : True := hpre; have hw_a : Wf ⟨(.named 0), (a : Edge)⟩ := hwf _ (List.Mem.head _); have hr_a_A : -9223372036854775808 ≤ Edge.A a ∧ Edge.A a ≤ 9223372036854775807 := (hw_a.field (tv := ⟨(.int .i64), Edge.A a⟩) (List.Mem.head _)).int_inv; have hr_a_B : -9223372036854775808 ≤ Edge.B a ∧ Edge.B a ≤ 9223372036854775807 := (hw_a.field (tv := ⟨(.int .i64), Edge.B a⟩) (List.Mem.tail _ (List.Mem.head _))).int_inv; have hr_a_Den : -9223372036854775808 ≤ Edge.Den a ∧ Edge.Den a ≤ 9223372036854775807 := (hw_a.field (tv := ⟨(.int .i64), Edge.Den a⟩) (List.Mem.tail _ (List.Mem.tail _ (List.Mem.head _)))).int_inv; have hw_b : Wf ⟨(.named 0), (b : Edge)⟩ := hwf _ (List.Mem.tail _ (List.Mem.head _)); have hr_b_A : -9223372036854775808 ≤ Edge.A b ∧ Edge.A b ≤ 9223372036854775807 := (hw_b.field (tv := ⟨(.int .i64), Edge.A b⟩) (List.Mem.head _)).int_inv; have hr_b_B : -9223372036854775808 ≤ Edge.B b ∧ Edge.B b ≤ 9223372036854775807 := (hw_b.field (tv := ⟨(.int .i64), Edge.B b⟩) (List.Mem.tail _ (List.Mem.head _))).int_inv; have hr_b_Den : -9223372036854775808 ≤ Edge.Den b ∧ Edge.Den b ≤ 9223372036854775807 := (hw_b.field (tv := ⟨(.int .i64), Edge.Den b⟩) (List.Mem.tail _ (List.Mem.tail _ (List.Mem.head _)))).int_inv; have e0 : eqEdge a b = eqEdge a b := rfl; refine AW.seq (AW.r1 hC [2, 3] [8, 12] ⟨[(2, .ref 8 1 0), (3, .ref 12 1 0)], [(8, .box 1 [.int .i64 (Edge.A a), .int .i64 (Edge.B a), .int .i64 (Edge.Den a)]), (12, .box 1 [.int .i64 (Edge.A b), .int .i64 (Edge.B b), .int .i64 (Edge.Den b)])]⟩ ?_); refine AW.seq (AW.seq (AW.r1U hC [2, 3, 9] [8, 12] [(9, .bool ((Edge.A a) != (Edge.A b)))] [] ?_)); refine AW.cdE e0 ?_ ?_
 · intro h1q e2; refine AW.seq (AW.r1 hC [4] [] ⟨[(4, .bool false)], []⟩ ?_); exact AW.ret (AW.retE (β := Bool) (fun v => [⟨.bool, v⟩]) (fun v => []) (v := false) e2 (by kernel_rfl) rfl rfl)
 ·
  intro h3q e4; refine AW.kpU [2, 3] [8, 12] [] [] ?_; refine AW.skip (AW.seq (AW.seq (AW.r1U hC [2, 3, 14] [8, 12] [(14, .bool ((Edge.B a) != (Edge.B b)))] [] ?_))); refine AW.cdE e4 ?_ ?_
  · intro h5q e6; refine AW.seq (AW.r1 hC [4] [] ⟨[(4, .bool false)], []⟩ ?_); exact AW.ret (AW.retE (β := Bool) (fun v => [⟨.bool, v⟩]) (fun v => []) (v := false) e6 (by kernel_rfl) rfl rfl)
  ·
   intro h7q e8; refine AW.kpU [2, 3] [8, 12] [] [] ?_; refine AW.skip (AW.seq (AW.seq (AW.r1 hC [19] [] ⟨[(19, .bool ((Edge.Den a) != (Edge.Den b)))], []⟩ ?_))); refine AW.cdE e8 ?_ ?_
   · intro h9q e10; refine AW.seq (AW.r1 hC [4] [] ⟨[(4, .bool false)], []⟩ ?_); exact AW.ret (AW.retE (β := Bool) (fun v => [⟨.bool, v⟩]) (fun v => []) (v := false) e10 (by kernel_rfl) rfl rfl)
   · intro h11q e12; refine AW.kp [] [] ⟨[], []⟩ ?_; refine AW.skip (AW.seq (AW.r1 hC [4] [] ⟨[(4, .bool true)], []⟩ ?_)); exact AW.ret (AW.retE (β := Bool) (fun v => [⟨.bool, v⟩]) (fun v => []) (v := true) e12 (by kernel_rfl) rfl rfl)

def eqEdgeS_l0 (a : List Edge) (b : List Edge) : Nat → Nat → Unit ⊕ Bool
 | 0, i => .inl ()
 | k + 1, i => (bif (decide (((i : Nat) : Int) < ((List.length a : Nat) : Int))) then (bif (!(eqEdge (List.getD a i Edge.zero) (List.getD b i Edge.zero))) then (.inr false) else (eqEdgeS_l0 a b k (i + 1))) else (.inl ()))

def eqEdgeS (a : List Edge) (b : List Edge) : Bool := (bif (((List.length a : Nat) : Int) != ((List.length b : Nat) : Int)) then false else (Sum.elim (fun _ => true) (fun r => r) (eqEdgeS_l0 a b ((List.length a) - 0 + 1) 0)))

def eqEdgeS_sp : FnSpec := mkSpec [.val (.slice (.named 0)), .val (.slice (.named 0))] [.val .bool] (fun (a : List Edge) (b : List Edge) => True) (fun (a : List Edge) (b : List Edge) => [⟨.bool, (eqEdgeS a b)⟩])

theorem eqEdgeS_ok : FnOK Try.prog 34 eqEdgeS_sp := by
 have hC : CtxOK Try.prog (mkCtx tyL [(44, eqEdge_sp)]) := CtxOK.cons eqEdge_ok (CtxOK.nil tyOK); have hM : Try.prog.follows .mixedOrders = true := Try.checked.mixed; refine FnOK.of_body Try.func34 (by kernel_rfl) rfl (C := (mkCtx tyL [(44, eqEdge_sp)])) hC.ty (by kernel_rfl) ?_; intro (a : List Edge) (b : List Edge) hwf hpre E; have hpre : True := hpre; have hw_a : Wf ⟨(.slice (.named 0)), (a : List Edge)⟩ := hwf _ (List.Mem.head _); have hl_a : ((List.length a : Nat) : Int) ≤ 9223372036854775807 := hw_a.len; have hw_b : Wf ⟨(.slice (.named 0)), (b : List Edge)⟩ := hwf _ (List.Mem.tail _ (List.Mem.head _)); have hl_b : ((List.length b : Nat) : Int) ≤ 9223372036854775807 := hw_b.len; have e0 : eqEdgeS a b = eqEdgeS a b := rfl; refine AW.seq (AW.r1U hC [0, 1] [] [] [] ?_); refine AW.seq (AW.seq (AW.r1U hC [0, 1, 10] [] [(10, .bool (((List.length a : Nat) : Int) != ((List.length b : Nat) : Int)))] [] ?_)); refine AW.cdE e0 ?_ ?_
 · intro h1q e2; refine AW.seq (AW.r1 hC [4] [] ⟨[(4, .bool false)], []⟩ ?_); exact AW.ret (AW.retE (β := Bool) (fun v => [⟨.bool, v⟩]) (fun v => []) (v := false) e2 (by kernel_rfl) rfl rfl)
 ·
  intro h3q e4; refine AW.kpU [0, 1] [] [] [] ?_; refine AW.skip (AW.seq (AW.seq (AW.r1U hC [0, 1, 5] [] [(5, .int .i64 0)] [] ?_))); refine AW.lpB (ζ := Unit) (fun x => ⟨[], []⟩) (fun x => True) (fun x => (.inl ())) (α := Nat) (fun x => ⟨[(0, .data (.slice (.named 0)) (a : List Edge)), (1, .data (.slice (.named 0)) (b : List Edge)), (5, .int .i64 ((x : Nat) : Int))], []⟩) (fun x => True) (fun x => (List.length a) - x) (fun k x => eqEdgeS_l0 a b k x) 0 (by kernel_rfl) ?_ ?_ ?_
  · first | exact trivial | (refine ⟨?_, ?_⟩ <;> first | omega | (simp; done)) | omega | (simp; done) | (dsimp only; exact trivial) | (dsimp only; (refine ⟨?_, ?_⟩ <;> first | omega | (simp; done))) | (dsimp only; omega) | (dsimp only; (simp; done)) | (show True; exact trivial) | (show True; (refine ⟨?_, ?_⟩ <;> first | omega | (simp; done))) | (show True; omega) | (show True; (simp; done))
  ·
   intro i k34q hI0 hk32 e33; (first | dsimp only at e33 | skip); replace hI0 : True := hI0; refine AW.seq (AW.seq (AW.r1U hC [0, 1, 5, 14] [] [(14, .bool (decide (((i : Nat) : Int) < ((List.length a : Nat) : Int))))] [] ?_)); refine AW.cdE e33 ?_ ?_
   ·
    intro h35q e36; refine AW.kpU [0, 1, 5] [] [] [] ?_; refine AW.skip (AW.seq (AW.block (AW.seq (AW.d0U hC hM [0, 1, 5, 26] [] [(26, .bool (!(eqEdge (List.getD a i Edge.zero) (List.getD b i Edge.zero))))] [] [(0 ≤ ((i : Nat) : Int) ∧ ((i : Nat) : Int) < ((List.length a : Nat) : Int)), (0 ≤ ((i : Nat) : Int) ∧ ((i : Nat) : Int) < ((List.length b : Nat) : Int)), (True)] ?_ ?_))))
    ·
     refine ⟨?_, ?_, ?_, trivial⟩
     · first | (omega) | ((dsimp only; omega)) | ((simp only [lens] at *; omega))
     · first | (omega) | ((dsimp only; omega)) | ((simp only [lens] at *; omega))
     · trivial
    refine AW.cdE e36 ?_ ?_
    · intro h37q e38; refine AW.seq (AW.r1 hC [4] [] ⟨[(4, .bool false)], []⟩ ?_); refine AW.ret ?_; have e39 := e4.trans (Go.Am.elim_r e38); exact AW.retE (β := Bool) (fun v => [⟨.bool, v⟩]) (fun v => []) (v := false) e39 (by kernel_rfl) rfl rfl
    ·
     intro h40q e41; refine AW.kpU [0, 1, 5] [] [] [] ?_; refine AW.skip (AW.r0U hC [0, 1, 5] [] [(5, .int .i64 ((i + 1 : Nat) : Int))] [] [(-9223372036854775808 ≤ ((i + 1 : Nat) : Int) ∧ ((i + 1 : Nat) : Int) ≤ 9223372036854775807)] ?_ ?_)
     ·
      refine ⟨?_, trivial⟩
      · first | (omega) | ((dsimp only; omega)) | ((simp only [lens] at *; omega))
     refine AW.bk (i + 1) e41 hk32 ?_ ?_
     · first | assumption | exact trivial | (refine ⟨?_, ?_⟩ <;> first | omega | (simp only [lens] at *; omega)) | omega | (simp only [lens] at *; omega) | (dsimp only; assumption) | (dsimp only; exact trivial) | (dsimp only; (refine ⟨?_, ?_⟩ <;> first | omega | (simp only [lens] at *; omega))) | (dsimp only; omega) | (dsimp only; (simp only [lens] at *; omega)) | (show True; assumption) | (show True; exact trivial) | (show True; (refine ⟨?_, ?_⟩ <;> first | omega | (simp only [lens] at *; omega))) | (show True; omega) | (show True; (simp only [lens] at *; omega))
     · first | omega | (simp only [lens]; omega) | (dsimp only; omega) | (dsimp only; (simp only [lens]; omega)) | (show (List.length a) - (i + 1) < (List.length a) - i; omega) | (show (List.length a) - (i + 1) < (List.length a) - i; (simp only [lens]; omega))
   · intro h42q e43; refine AW.kp [] [] ⟨[], []⟩ ?_; refine AW.exit ?_; refine AW.meet () (by kernel_rfl) ⟨?_, e43⟩; first | assumption | exact trivial | omega | (dsimp only; assumption) | (dsimp only; exact trivial) | (dsimp only; omega) | (show True; assumption) | (show True; exact trivial) | (show True; omega)
  · intro x hJ0 e44; replace hJ0 : True := hJ0; have e45 := e4.trans (Go.Am.elim_l e44); (first | dsimp only at e45 | skip); refine AW.seq (AW.r1 hC [4] [] ⟨[(4, .bool true)], []⟩ ?_); exact AW.ret (AW.retE (β := Bool) (fun v => [⟨.bool, v⟩]) (fun v => []) (v := true) e45 (by kernel_rfl) rfl rfl)

def eqGraph (a : Graph) (b : Graph) : Bool := (bif (!(eqIntS (Graph.Rows a) (Graph.Rows b))) then false else (bif (!(eqEdgeS (Graph.Edges a) (Graph.Edges b))) then false else true))

def eqGraph_sp : FnSpec := mkSpec [.val (.named 1), .val (.named 1)] [.val .bool] (fun (a : Graph) (b : Graph) => True) (fun (a : Graph) (b : Graph) => [⟨.bool, (eqGraph a b)⟩])

theorem eqGraph_ok : FnOK Try.prog 14 eqGraph_sp := by
 have hC : CtxOK Try.prog (mkCtx tyL [(13, eqIntS_sp), (34, eqEdgeS_sp)]) := CtxOK.cons eqIntS_ok (CtxOK.cons eqEdgeS_ok (CtxOK.nil tyOK)); refine FnOK.of_body Try.func14 (by kernel_rfl) rfl (C := (mkCtx tyL [(13, eqIntS_sp), (34, eqEdgeS_sp)])) hC.ty (by kernel_rfl) ?_; intro (a : Graph) (b : Graph) hwf hpre E; have hpre : True := hpre; have hw_a : Wf ⟨(.named 1), (a : Graph)⟩ := hwf _ (List.Mem.head _); have hl_a_Rows : ((List.length (Graph.Rows a) : Nat) : Int) ≤ 9223372036854775807 := (hw_a.field (tv := ⟨(.slice (.int .i64)), Graph.Rows a⟩) (List.Mem.head _)).len; have hl_a_Edges : ((List.length (Graph.Edges a) : Nat) : Int) ≤ 9223372036854775807 := (hw_a.field (tv := ⟨(.slice (.named 0)), Graph.Edges a⟩) (List.Mem.tail _ (List.Mem.head _))).len; have hw_b : Wf ⟨(.named 1), (b : Graph)⟩ := hwf _ (List.Mem.tail _ (List.Mem.head _)); have hl_b_Rows : ((List.length (Graph.Rows b) : Nat) : Int) ≤ 9223372036854775807 := (hw_b.field (tv := ⟨(.slice (.int .i64)), Graph.Rows b⟩) (List.Mem.head _)).len; have hl_b_Edges : ((List.length (Graph.Edges b) : Nat) : Int) ≤ 9223372036854775807 := (hw_b.field (tv := ⟨(.slice (.named 0)), Graph.Edges b⟩) (List.Mem.tail _ (List.Mem.head _))).len; have e0 : eqGraph a b = eqGraph a b := rfl; refine AW.seq (AW.r1 hC [2, 3] [8, 12] ⟨[(2, .ref 8 1 0), (3, .ref 12 1 0)], [(8, .box 1 [.data (.slice (.int .i64)) ((Graph.Rows a) : List Int), .data (.slice (.named 0)) ((Graph.Edges a) : List Edge)]), (12, .box 1 [.data (.slice (.int .i64)) ((Graph.Rows b) : List Int), .data (.slice (.named 0)) ((Graph.Edges b) : List Edge)])]⟩ ?_); refine AW.seq (AW.seq (AW.r0U hC [2, 3, 10] [8, 12] [(10, .bool (!(eqIntS (Graph.Rows a) (Graph.Rows b))))] [] [(True)] ?_ ?_))
 ·
  refine ⟨?_, trivial⟩
  · trivial
 refine AW.cdE e0 ?_ ?_
 · intro h1q e2; refine AW.seq (AW.r1 hC [4] [] ⟨[(4, .bool false)], []⟩ ?_); exact AW.ret (AW.retE (β := Bool) (fun v => [⟨.bool, v⟩]) (fun v => []) (v := false) e2 (by kernel_rfl) rfl rfl)
 ·
  intro h3q e4; refine AW.kpU [2, 3] [8, 12] [] [] ?_; refine AW.skip (AW.seq (AW.seq (AW.r0 hC [16] [] ⟨[(16, .bool (!(eqEdgeS (Graph.Edges a) (Graph.Edges b))))], []⟩ [(True)] ?_ ?_)))
  ·
   refine ⟨?_, trivial⟩
   · trivial
  refine AW.cdE e4 ?_ ?_
  · intro h5q e6; refine AW.seq (AW.r1 hC [4] [] ⟨[(4, .bool false)], []⟩ ?_); exact AW.ret (AW.retE (β := Bool) (fun v => [⟨.bool, v⟩]) (fun v => []) (v := false) e6 (by kernel_rfl) rfl rfl)
  · intro h7q e8; refine AW.kp [] [] ⟨[], []⟩ ?_; refine AW.skip (AW.seq (AW.r1 hC [4] [] ⟨[(4, .bool true)], []⟩ ?_)); exact AW.ret (AW.retE (β := Bool) (fun v => [⟨.bool, v⟩]) (fun v => []) (v := true) e8 (by kernel_rfl) rfl rfl)

theorem szIntS_le {a : List Int} {l : Int} (h : ¬ szIntS a l < 0) : (List.length a : Int) ≤ l ∧ szIntS a l ≤ l := by
 unfold szIntS at *; by_cases e : l - ((List.length a : Nat) : Int) < 0
 · rw [show decide (l - ((List.length a : Nat) : Int) < 0) = true by simp [e], cond_true] at h; omega
 · rw [show decide (l - ((List.length a : Nat) : Int) < 0) = false by simp; omega, cond_false] at *; omega

theorem szEdgeS_le {a : List Edge} {l : Int} (h : ¬ szEdgeS a l < 0) : (List.length a : Int) ≤ l ∧ szEdgeS a l ≤ l := by
 unfold szEdgeS at *; by_cases e : l - ((List.length a : Nat) : Int) < 0
 · rw [show decide (l - ((List.length a : Nat) : Int) < 0) = true by simp [e], cond_true] at h; omega
 · rw [show decide (l - ((List.length a : Nat) : Int) < 0) = false by simp; omega, cond_false] at *; omega

theorem szGraph_le {a : Graph} {l : Int} (h : ¬ szGraph a l < 0) : (List.length a.Rows : Int) ≤ l ∧ (List.length a.Edges : Int) ≤ l := by
 unfold szGraph at h; by_cases h1 : szIntS a.Rows l < 0
 · rw [decide_eq_true h1, cond_true] at h; exact absurd (by decide) h
 ·
  rw [decide_eq_false h1, cond_false] at h; have e1 := szIntS_le h1; by_cases h2 : szEdgeS a.Edges (szIntS a.Rows l) < 0
  · rw [decide_eq_true h2, cond_true] at h; exact absurd (by decide) h
  · have e2 := szEdgeS_le h2; omega

end
end Go.Proofs.Ytclennmbceaoeaa
