/-
  A part of the proof of this claim (Ax3): what functions of the program compute, and plain facts of that. No conditions.
-/
import Derived.Test.YtgbapklfgjnggaaAx2
set_option linter.all false
namespace Go.Proofs.Ytgbapklfgjnggaa
open Go Go.Am
noncomputable section

def subsetSize_l0 (g : Graph) (mask : Int) : Nat → Int → Nat → Int
 | 0, n1, i => n1
 | k + 1, n1, i => (bif (decide (((i : Nat) : Int) < ((List.length (Graph.Rows g) : Nat) : Int))) then (bif (has mask ((i : Nat) : Int)) then (subsetSize_l0 g mask k (n1 * (List.getD (Graph.Rows g) i 0)) (i + 1)) else (subsetSize_l0 g mask k n1 (i + 1))) else n1)

def subsetSize_l1 (g : Graph) (mask : Int) : Nat → Int → Nat → Int
 | 0, n, i => n
 | k + 1, n, i => (bif (decide (((i : Nat) : Int) < ((List.length (Graph.Edges g) : Nat) : Int))) then (bif (bif (has mask (Edge.A (List.getD (Graph.Edges g) i Edge.zero))) then (has mask (Edge.B (List.getD (Graph.Edges g) i Edge.zero))) else false) then (subsetSize_l1 g mask k (n / (Edge.Den (List.getD (Graph.Edges g) i Edge.zero))) (i + 1)) else (subsetSize_l1 g mask k n (i + 1))) else n)

def subsetSize (g : Graph) (mask : Int) : Int := (Go.Am.andThen (subsetSize_l0 g mask ((List.length (Graph.Rows g)) - 0 + 1) 1 0) (fun z => (fun (n1 : Int) => (Go.Am.andThen (subsetSize_l1 g mask ((List.length (Graph.Edges g)) - 0 + 1) n1 0) (fun z => (fun (n : Int) => (if 1 > n then 1 else n)) z))) z))

def subsetSize_sp : FnSpec := mkSpec [.val (.named 1), .val (.int .i64)] [.val (.int .i64)] (fun (g : Graph) (mask : Int) => VG g ∧ 0 ≤ mask) (fun (g : Graph) (mask : Int) => [⟨(.int .i64), (subsetSize g mask)⟩])

theorem subsetSize_ok : FnOK Try.prog 57 subsetSize_sp := by
 have hC : CtxOK Try.prog (mkCtx tyL [(82, has_sp)]) := CtxOK.cons has_ok (CtxOK.nil tyOK)
 refine FnOK.of_body Try.func57 (by kernel_rfl) rfl (C := (mkCtx tyL [(82, has_sp)])) hC.ty (by kernel_rfl) ?_
 intro (g : Graph) (mask : Int) hwf hpre E
 have hpre : VG g ∧ 0 ≤ mask := hpre
 have hw_g : Wf ⟨(.named 1), (g : Graph)⟩ := hwf _ (List.Mem.head _)
 have hl_g_Rows : ((List.length (Graph.Rows g) : Nat) : Int) ≤ 9223372036854775807 := (hw_g.field (tv := ⟨(.slice (.int .i64)), Graph.Rows g⟩) (List.Mem.head _)).len
 have hl_g_Edges : ((List.length (Graph.Edges g) : Nat) : Int) ≤ 9223372036854775807 := (hw_g.field (tv := ⟨(.slice (.named 0)), Graph.Edges g⟩) (List.Mem.tail _ (List.Mem.head _))).len
 have hw_mask : Wf ⟨(.int .i64), (mask : Int)⟩ := hwf _ (List.Mem.tail _ (List.Mem.head _))
 have hr_mask : -9223372036854775808 ≤ mask ∧ mask ≤ 9223372036854775807 := hw_mask.int_inv
 have hV : VG g := hpre.1
 have e0 : subsetSize g mask = subsetSize g mask := rfl
 refine AW.seq (AW.r1U hC [1, 2] [8] [(2, .ref 8 1 0)] [(8, .box 1 [.data (.slice (.int .i64)) ((Graph.Rows g) : List Int), .data (.slice (.named 0)) ((Graph.Edges g) : List Edge)])] ?_)
 refine AW.seq (AW.r1U hC [1, 2, 5] [8] [(5, .int .i64 1)] [] ?_)
 refine AW.seq (AW.seq (AW.r1U hC [1, 2, 5, 6] [8] [(6, .int .i64 0)] [] ?_))
 refine AW.cutQ (α := Int) (fun x => ⟨[(1, .int .i64 mask), (2, .ref 8 1 0), (5, .int .i64 x)], [(8, .box 1 [.data (.slice (.int .i64)) ((Graph.Rows g) : List Int), .data (.slice (.named 0)) ((Graph.Edges g) : List Edge)])]⟩) (fun x => (0 ≤ x ∧ x ≤ 1000000000000000) ∧ (subsetSize_l0 g mask ((List.length (Graph.Rows g)) - 0 + 1) 1 0) = x) ?_ ?_
 ·
  skip
  refine AW.block (AW.loop (α := Int × Nat) (fun x => ⟨[(1, .int .i64 mask), (2, .ref 8 1 0), (5, .int .i64 x.1), (6, .int .i64 ((x.2 : Nat) : Int))], [(8, .box 1 [.data (.slice (.int .i64)) ((Graph.Rows g) : List Int), .data (.slice (.named 0)) ((Graph.Edges g) : List Edge)])]⟩) (fun x => ((1 ≤ x.1 ∧ x.1 ≤ 1000 ^ x.2) ∧ x.2 ≤ 5) ∧ ∃ k, (List.length (Graph.Rows g)) - x.2 < k ∧ (subsetSize_l0 g mask ((List.length (Graph.Rows g)) - 0 + 1) 1 0) = subsetSize_l0 g mask k x.1 x.2) (fun x => (List.length (Graph.Rows g)) - x.2) (1, 0) (by kernel_rfl) ⟨?_, _, Nat.lt_succ_self _, rfl⟩ ?_)
  ·
   show (1 ≤ 1 ∧ 1 ≤ 1000 ^ 0) ∧ 0 ≤ 5
   exact ⟨⟨by decide, by decide⟩, by omega⟩
  ·
   intro x hR
   obtain ⟨n1, i⟩ := x
   obtain ⟨hI0, k35, hk33, e34⟩ := hR
   replace hI0 : (1 ≤ n1 ∧ n1 ≤ 1000 ^ i) ∧ i ≤ 5 := hI0
   replace hk33 : (List.length (Graph.Rows g)) - i < k35 := hk33
   obtain ⟨k35q, rfl⟩ : ∃ k, k35 = k + 1 := ⟨k35 - 1, by omega⟩
   have hr := fun (h : i < g.Rows.length) => hV.rows _ (getD_mem g.Rows i 0 h)
   have hn5 := hV.n5
   have hp5 := fun (h : i < 5) => pow5 (i := i + 1) (by omega)
   refine AW.seq (AW.seq (AW.r1U hC [1, 2, 5, 6, 12] [8] [(12, .bool (decide (((i : Nat) : Int) < ((List.length (Graph.Rows g) : Nat) : Int))))] [] ?_))
   refine AW.cd (decide (((i : Nat) : Int) < ((List.length (Graph.Rows g) : Nat) : Int))) ?_ ?_
   ·
    intro h36
    have h36q : ((i : Nat) : Int) < ((List.length (Graph.Rows g) : Nat) : Int) := (of_decide_eq_true h36)
    have e37 := e34.trans (Go.Am.bif_t h36)
    refine AW.kpU [1, 2, 5, 6] [8] [] [] ?_
    refine AW.skip (AW.seq (AW.block (AW.seq (AW.r0U hC [1, 2, 5, 6, 17] [8] [(17, .bool (has mask ((i : Nat) : Int)))] [] [(0 ≤ mask ∧ (0 ≤ ((i : Nat) : Int) ∧ ((i : Nat) : Int) ≤ 64))] ?_ ?_))))
    ·
     refine ⟨?_, trivial⟩
     ·
      omega
    refine AW.cd (has mask ((i : Nat) : Int)) ?_ ?_
    ·
     intro h38
     have h38q : (has mask ((i : Nat) : Int)) = true := h38
     have e39 := e37.trans (Go.Am.bif_t h38)
     refine AW.r0U hC [1, 2, 5, 6] [8] [(5, .int .i64 (n1 * (List.getD (Graph.Rows g) i 0)))] [] [(0 ≤ ((i : Nat) : Int) ∧ ((i : Nat) : Int) < ((List.length (Graph.Rows g) : Nat) : Int)), (-9223372036854775808 ≤ (n1 * (List.getD (Graph.Rows g) i 0)) ∧ (n1 * (List.getD (Graph.Rows g) i 0)) ≤ 9223372036854775807)] ?_ ?_
     ·
      refine ⟨?_, ?_, trivial⟩
      ·
       omega
      ·
       have := times hI0.1.1 hI0.1.2 (hr (by omega)).1 (hr (by omega)).2
       have := hp5 (by omega)
       omega
     refine AW.r0U hC [1, 2, 5, 6] [8] [(6, .int .i64 ((i + 1 : Nat) : Int))] [] [(-9223372036854775808 ≤ ((i + 1 : Nat) : Int) ∧ ((i + 1 : Nat) : Int) ≤ 9223372036854775807)] ?_ ?_
     ·
      refine ⟨?_, trivial⟩
      ·
       omega
     refine AW.back (x := (n1, i)) ((n1 * (List.getD (Graph.Rows g) i 0)), i + 1) (by kernel_rfl) ⟨?_, k35q, ?_, e39⟩ ?_
     ·
      show (1 ≤ (n1 * (List.getD (Graph.Rows g) i 0)) ∧ (n1 * (List.getD (Graph.Rows g) i 0)) ≤ 1000 ^ (i + 1)) ∧ (i + 1) ≤ 5
      exact ⟨times hI0.1.1 hI0.1.2 (hr (by omega)).1 (hr (by omega)).2, by omega⟩
     ·
      show (List.length (Graph.Rows g)) - (i + 1) < k35q
      omega
     ·
      show (List.length (Graph.Rows g)) - (i + 1) < (List.length (Graph.Rows g)) - i
      omega
    ·
     intro h40
     have h40q : (has mask ((i : Nat) : Int)) = false := h40
     have e41 := e37.trans (Go.Am.bif_f h40)
     refine AW.kpU [1, 2, 5, 6] [8] [] [] ?_
     refine AW.skip (AW.r0U hC [1, 2, 5, 6] [8] [(6, .int .i64 ((i + 1 : Nat) : Int))] [] [(-9223372036854775808 ≤ ((i + 1 : Nat) : Int) ∧ ((i + 1 : Nat) : Int) ≤ 9223372036854775807)] ?_ ?_)
     ·
      refine ⟨?_, trivial⟩
      ·
       omega
     refine AW.back (x := (n1, i)) (n1, i + 1) (by kernel_rfl) ⟨?_, k35q, ?_, e41⟩ ?_
     ·
      show (1 ≤ n1 ∧ n1 ≤ 1000 ^ (i + 1)) ∧ (i + 1) ≤ 5
      exact ⟨⟨hI0.1.1, grow5 hI0.1.2⟩, by omega⟩
     ·
      show (List.length (Graph.Rows g)) - (i + 1) < k35q
      omega
     ·
      show (List.length (Graph.Rows g)) - (i + 1) < (List.length (Graph.Rows g)) - i
      omega
   ·
    intro h42
    have h42q : ¬ (((i : Nat) : Int) < ((List.length (Graph.Rows g) : Nat) : Int)) := (of_decide_eq_false h42)
    have e43 := e34.trans (Go.Am.bif_f h42)
    refine AW.kpU [1, 2, 5] [8] [] [] ?_
    refine AW.exit ?_
    refine AW.meet n1 (by kernel_rfl) ⟨?_, e43⟩
    show 0 ≤ n1 ∧ n1 ≤ 1000000000000000
    have := pow5 hI0.2
    omega
 ·
  intro n1 hR
  obtain ⟨hJ0, e44⟩ := hR
  replace hJ0 : 0 ≤ n1 ∧ n1 ≤ 1000000000000000 := hJ0
  have e45 := e0.trans (Go.Am.then_eq e44)
  refine AW.seq (AW.seq (AW.r1U hC [1, 2, 5, 7] [8] [(7, .int .i64 0)] [] ?_))
  refine AW.cutQ (α := Int) (fun x => ⟨[(5, .int .i64 x)], []⟩) (fun x => (0 ≤ x ∧ x ≤ 1000000000000000) ∧ (subsetSize_l1 g mask ((List.length (Graph.Edges g)) - 0 + 1) n1 0) = x) ?_ ?_
  ·
   skip
   refine AW.block (AW.loop (α := Int × Nat) (fun x => ⟨[(1, .int .i64 mask), (2, .ref 8 1 0), (5, .int .i64 x.1), (7, .int .i64 ((x.2 : Nat) : Int))], [(8, .box 1 [.data (.slice (.int .i64)) ((Graph.Rows g) : List Int), .data (.slice (.named 0)) ((Graph.Edges g) : List Edge)])]⟩) (fun x => (0 ≤ x.1 ∧ x.1 ≤ 1000000000000000) ∧ ∃ k, (List.length (Graph.Edges g)) - x.2 < k ∧ (subsetSize_l1 g mask ((List.length (Graph.Edges g)) - 0 + 1) n1 0) = subsetSize_l1 g mask k x.1 x.2) (fun x => (List.length (Graph.Edges g)) - x.2) (n1, 0) (by kernel_rfl) ⟨?_, _, Nat.lt_succ_self _, rfl⟩ ?_)
   ·
    show 0 ≤ n1 ∧ n1 ≤ 1000000000000000
    exact hJ0
   ·
    intro x hR
    obtain ⟨n, i⟩ := x
    obtain ⟨hI1, k72, hk70, e71⟩ := hR
    replace hI1 : 0 ≤ n ∧ n ≤ 1000000000000000 := hI1
    replace hk70 : (List.length (Graph.Edges g)) - i < k72 := hk70
    obtain ⟨k72q, rfl⟩ : ∃ k, k72 = k + 1 := ⟨k72 - 1, by omega⟩
    have he := fun (h : i < g.Edges.length) => hV.edges _ (getD_mem g.Edges i Edge.zero h)
    have hn6 := hV.e6
    have hn5 := hV.n5
    refine AW.seq (AW.seq (AW.r1U hC [1, 2, 5, 7, 29] [8] [(29, .bool (decide (((i : Nat) : Int) < ((List.length (Graph.Edges g) : Nat) : Int))))] [] ?_))
    refine AW.cd (decide (((i : Nat) : Int) < ((List.length (Graph.Edges g) : Nat) : Int))) ?_ ?_
    ·
     intro h73
     have h73q : ((i : Nat) : Int) < ((List.length (Graph.Edges g) : Nat) : Int) := (of_decide_eq_true h73)
     have e74 := e71.trans (Go.Am.bif_t h73)
     refine AW.kpU [1, 2, 5, 7] [8] [] [] ?_
     refine AW.skip (AW.seq (AW.block (AW.seq (AW.r0U hC [1, 2, 5, 7, 49] [8] [(49, .bool (bif (has mask (Edge.A (List.getD (Graph.Edges g) i Edge.zero))) then (has mask (Edge.B (List.getD (Graph.Edges g) i Edge.zero))) else false))] [] [(0 ≤ ((i : Nat) : Int) ∧ ((i : Nat) : Int) < ((List.length (Graph.Edges g) : Nat) : Int)), (0 ≤ mask ∧ (0 ≤ (Edge.A (List.getD (Graph.Edges g) i Edge.zero)) ∧ (Edge.A (List.getD (Graph.Edges g) i Edge.zero)) ≤ 64)), (((has mask (Edge.A (List.getD (Graph.Edges g) i Edge.zero))) = true) → (((has mask (Edge.A (List.getD (Graph.Edges g) i Edge.zero))) = true))), (((has mask (Edge.A (List.getD (Graph.Edges g) i Edge.zero))) = true) → (((has mask (Edge.A (List.getD (Graph.Edges g) i Edge.zero))) = true))), (((has mask (Edge.A (List.getD (Graph.Edges g) i Edge.zero))) = true) → (((has mask (Edge.A (List.getD (Graph.Edges g) i Edge.zero))) = true))), (((has mask (Edge.A (List.getD (Graph.Edges g) i Edge.zero))) = true) → (0 ≤ ((i : Nat) : Int) ∧ ((i : Nat) : Int) < ((List.length (Graph.Edges g) : Nat) : Int))), (((has mask (Edge.A (List.getD (Graph.Edges g) i Edge.zero))) = true) → (((has mask (Edge.A (List.getD (Graph.Edges g) i Edge.zero))) = true))), (((has mask (Edge.A (List.getD (Graph.Edges g) i Edge.zero))) = true) → (((has mask (Edge.A (List.getD (Graph.Edges g) i Edge.zero))) = true))), (((has mask (Edge.A (List.getD (Graph.Edges g) i Edge.zero))) = true) → (((has mask (Edge.A (List.getD (Graph.Edges g) i Edge.zero))) = true))), (((has mask (Edge.A (List.getD (Graph.Edges g) i Edge.zero))) = true) → (((has mask (Edge.A (List.getD (Graph.Edges g) i Edge.zero))) = true))), (((has mask (Edge.A (List.getD (Graph.Edges g) i Edge.zero))) = true) → (0 ≤ mask ∧ (0 ≤ (Edge.B (List.getD (Graph.Edges g) i Edge.zero)) ∧ (Edge.B (List.getD (Graph.Edges g) i Edge.zero)) ≤ 64))), (((has mask (Edge.A (List.getD (Graph.Edges g) i Edge.zero))) = true) → (((has mask (Edge.A (List.getD (Graph.Edges g) i Edge.zero))) = true)))] ?_ ?_))))
     ·
      refine ⟨?_, ?_, ?_, ?_, ?_, ?_, ?_, ?_, ?_, ?_, ?_, ?_, trivial⟩
      ·
       omega
      ·
       omega
      ·
       intro g75
       have g75p0 : (has mask (Edge.A (List.getD (Graph.Edges g) i Edge.zero))) = true := g75
       assumption
      ·
       intro g76
       have g76p0 : (has mask (Edge.A (List.getD (Graph.Edges g) i Edge.zero))) = true := g76
       assumption
      ·
       intro g77
       have g77p0 : (has mask (Edge.A (List.getD (Graph.Edges g) i Edge.zero))) = true := g77
       assumption
      ·
       intro g78
       have g78p0 : (has mask (Edge.A (List.getD (Graph.Edges g) i Edge.zero))) = true := g78
       omega
      ·
       intro g79
       have g79p0 : (has mask (Edge.A (List.getD (Graph.Edges g) i Edge.zero))) = true := g79
       assumption
      ·
       intro g80
       have g80p0 : (has mask (Edge.A (List.getD (Graph.Edges g) i Edge.zero))) = true := g80
       assumption
      ·
       intro g81
       have g81p0 : (has mask (Edge.A (List.getD (Graph.Edges g) i Edge.zero))) = true := g81
       assumption
      ·
       intro g82
       have g82p0 : (has mask (Edge.A (List.getD (Graph.Edges g) i Edge.zero))) = true := g82
       assumption
      ·
       intro g83
       have g83p0 : (has mask (Edge.A (List.getD (Graph.Edges g) i Edge.zero))) = true := g83
       omega
      ·
       intro g84
       have g84p0 : (has mask (Edge.A (List.getD (Graph.Edges g) i Edge.zero))) = true := g84
       assumption
     refine AW.cd (bif (has mask (Edge.A (List.getD (Graph.Edges g) i Edge.zero))) then (has mask (Edge.B (List.getD (Graph.Edges g) i Edge.zero))) else false) ?_ ?_
     ·
      intro h85
      have h85q : ((has mask (Edge.A (List.getD (Graph.Edges g) i Edge.zero))) = true) ∧ ((has mask (Edge.B (List.getD (Graph.Edges g) i Edge.zero))) = true) := (And.imp (fun h => h) (fun h => h) (Go.Am.and_pos h85))
      have e86 := e74.trans (Go.Am.bif_t h85)
      refine AW.r0U hC [1, 2, 5, 7] [8] [(5, .int .i64 (n / (Edge.Den (List.getD (Graph.Edges g) i Edge.zero))))] [] [(0 ≤ ((i : Nat) : Int) ∧ ((i : Nat) : Int) < ((List.length (Graph.Edges g) : Nat) : Int)), (0 ≤ n ∧ 0 < (Edge.Den (List.getD (Graph.Edges g) i Edge.zero)))] ?_ ?_
      ·
       refine ⟨?_, ?_, trivial⟩
       ·
        omega
       ·
        omega
      refine AW.r0U hC [1, 2, 5, 7] [8] [(7, .int .i64 ((i + 1 : Nat) : Int))] [] [(-9223372036854775808 ≤ ((i + 1 : Nat) : Int) ∧ ((i + 1 : Nat) : Int) ≤ 9223372036854775807)] ?_ ?_
      ·
       refine ⟨?_, trivial⟩
       ·
        omega
      refine AW.back (x := (n, i)) ((n / (Edge.Den (List.getD (Graph.Edges g) i Edge.zero))), i + 1) (by kernel_rfl) ⟨?_, k72q, ?_, e86⟩ ?_
      ·
       show 0 ≤ (n / (Edge.Den (List.getD (Graph.Edges g) i Edge.zero))) ∧ (n / (Edge.Den (List.getD (Graph.Edges g) i Edge.zero))) ≤ 1000000000000000
       have := divs hI1.1 (he (by omega)).2.2.2.1
       omega
      ·
       show (List.length (Graph.Edges g)) - (i + 1) < k72q
       omega
      ·
       show (List.length (Graph.Edges g)) - (i + 1) < (List.length (Graph.Edges g)) - i
       omega
     ·
      intro h87
      have h87q : ((has mask (Edge.A (List.getD (Graph.Edges g) i Edge.zero))) = false) ∨ ((has mask (Edge.B (List.getD (Graph.Edges g) i Edge.zero))) = false) := (Or.imp (fun h => h) (fun h => h) (Go.Am.and_neg h87))
      have e88 := e74.trans (Go.Am.bif_f h87)
      refine AW.kpU [1, 2, 5, 7] [8] [] [] ?_
      refine AW.skip (AW.r0U hC [1, 2, 5, 7] [8] [(7, .int .i64 ((i + 1 : Nat) : Int))] [] [(-9223372036854775808 ≤ ((i + 1 : Nat) : Int) ∧ ((i + 1 : Nat) : Int) ≤ 9223372036854775807)] ?_ ?_)
      ·
       refine ⟨?_, trivial⟩
       ·
        omega
      refine AW.back (x := (n, i)) (n, i + 1) (by kernel_rfl) ⟨?_, k72q, ?_, e88⟩ ?_
      ·
       show 0 ≤ n ∧ n ≤ 1000000000000000
       exact hI1
      ·
       show (List.length (Graph.Edges g)) - (i + 1) < k72q
       omega
      ·
       show (List.length (Graph.Edges g)) - (i + 1) < (List.length (Graph.Edges g)) - i
       omega
    ·
     intro h89
     have h89q : ¬ (((i : Nat) : Int) < ((List.length (Graph.Edges g) : Nat) : Int)) := (of_decide_eq_false h89)
     have e90 := e71.trans (Go.Am.bif_f h89)
     refine AW.kpU [5] [] [] [] ?_
     refine AW.exit ?_
     refine AW.meet n (by kernel_rfl) ⟨?_, e90⟩
     show 0 ≤ n ∧ n ≤ 1000000000000000
     exact hI1
  ·
   intro n hR
   obtain ⟨hJ1, e91⟩ := hR
   replace hJ1 : 0 ≤ n ∧ n ≤ 1000000000000000 := hJ1
   have e92 := e45.trans (Go.Am.then_eq e91)
   refine AW.seq (AW.r1 hC [4] [] ⟨[(4, .int .i64 (if 1 > n then 1 else n))], []⟩ ?_)
   exact AW.ret (AW.retE (β := Int) (fun v => [⟨(.int .i64), v⟩]) (fun v => []) (v := (if 1 > n then 1 else n)) e92 (by kernel_rfl) rfl rfl)

end
end Go.Proofs.Ytgbapklfgjnggaa
