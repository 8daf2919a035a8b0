/-
  A part of the proof of this claim (Ax3): what functions of the program compute, and plain facts of that. No conditions.
-/
import Derived.Test.YtgbapklfgjnggaaAx2
set_option linter.all false
namespace Go.Proofs.Ytgbapklfgjnggaa
open Go Go.Am
open Go.Am.AW (seq r1U ret kpU cdE r0U r1 meet block rS bk exit lpB r0 kp d0U d0)
open List (length getD set replicate)
noncomputable section

def subsetSize_l0 (g : Graph) (mask : Int) : Nat → Int → Nat → Int
 | 0, n1, i => n1
 | k + 1, n1, i => (bif (decide ((i : Int) < (length (Graph.Rows g) : Int))) then (bif (has mask (i : Int)) then (subsetSize_l0 g mask k (n1 * (getD (Graph.Rows g) i 0)) (i + 1)) else (subsetSize_l0 g mask k n1 (i + 1))) else n1)

def subsetSize_l1 (g : Graph) (mask : Int) : Nat → Int → Nat → Int
 | 0, n, i => n
 | k + 1, n, i => (bif (decide ((i : Int) < (length (Graph.Edges g) : Int))) then (bif (bif (has mask (Edge.A (getD (Graph.Edges g) i Edge.zero))) then (has mask (Edge.B (getD (Graph.Edges g) i Edge.zero))) else false) then (subsetSize_l1 g mask k (n / (Edge.Den (getD (Graph.Edges g) i Edge.zero))) (i + 1)) else (subsetSize_l1 g mask k n (i + 1))) else n)

def subsetSize (g : Graph) (mask : Int) : Int := (andThen (subsetSize_l0 g mask ((length (Graph.Rows g)) - 0 + 1) 1 0) (fun z => (fun (n1 : Int) => (andThen (subsetSize_l1 g mask ((length (Graph.Edges g)) - 0 + 1) n1 0) (fun z => (fun (n : Int) => (if 1 > n then 1 else n)) z))) z))

def subsetSize_sp : FnSpec := mkSpec [.val (.named 1), .val (.int .i64)] [.val (.int .i64)] (fun (g : Graph) (mask : Int) => VG g ∧ 0 ≤ mask) (fun (g : Graph) (mask : Int) => [⟨(.int .i64), (subsetSize g mask)⟩])

theorem subsetSize_ok : FnOK Try.prog 57 subsetSize_sp := by
 have hC : CtxOK Try.prog (mkCtx tyL [(82, has_sp)]) := CtxOK.cons has_ok (CtxOK.nil tyOK); refine FnOK.of_body Try.func57 (by kernel_rfl) rfl (C := (mkCtx tyL [(82, has_sp)])) hC.ty (by kernel_rfl) ?_; intro (g : Graph) (mask : Int) hwf hpre E; have hpre : VG g ∧ 0 ≤ mask := hpre; have hV : VG g := hpre.1; have e0 : subsetSize g mask = subsetSize g mask := rfl; refine seq (r1U hC [1, 2] [8] [(2, .ref 8 1 0)] [(8, .box 1 [.data (.slice (.int .i64)) ((Graph.Rows g) : List Int), .data (.slice (.named 0)) ((Graph.Edges g) : List Edge)])] ?_); refine seq (r1U hC [1, 2, 5] [8] [(5, .int .i64 1)] [] ?_); refine seq (seq (r1U hC [1, 2, 5, 6] [8] [(6, .int .i64 0)] [] ?_)); refine lpB (ζ := Int) (fun x => ⟨[(1, .int .i64 mask), (2, .ref 8 1 0), (5, .int .i64 x)], [(8, .box 1 [.data (.slice (.int .i64)) ((Graph.Rows g) : List Int), .data (.slice (.named 0)) ((Graph.Edges g) : List Edge)])]⟩) (fun x => 0 ≤ x ∧ x ≤ 1000000000000000) (fun x => x) (α := Int × Nat) (fun x => ⟨[(1, .int .i64 mask), (2, .ref 8 1 0), (5, .int .i64 x.1), (6, .int .i64 ((x.2 : Nat) : Int))], [(8, .box 1 [.data (.slice (.int .i64)) ((Graph.Rows g) : List Int), .data (.slice (.named 0)) ((Graph.Edges g) : List Edge)])]⟩) (fun x => (1 ≤ x.1 ∧ x.1 ≤ 1000 ^ x.2) ∧ x.2 ≤ 5) (fun x => (length (Graph.Rows g)) - x.2) (fun k x => subsetSize_l0 g mask k x.1 x.2) (1, 0) (by kernel_rfl) ?_ ?_ ?_
 · exact ⟨⟨by decide, by decide⟩, by omega⟩
 ·
  intro x k35q hI0 hk33 e34; obtain ⟨n1, i⟩ := x; replace hI0 : (1 ≤ n1 ∧ n1 ≤ 1000 ^ i) ∧ i ≤ 5 := hI0; have hr := fun (h : i < g.Rows.length) => hV.rows _ (getD_mem g.Rows i 0 h); have hn5 := hV.n5; have hp5 := fun (h : i < 5) => pow5 (i := i + 1) (by omega); refine seq (seq (r1U hC [1, 2, 5, 6, 12] [8] [(12, .bool (decide ((i : Int) < (length (Graph.Rows g) : Int))))] [] ?_)); refine cdE e34 ?_ ?_
  ·
   intro h36q e37; refine kpU [1, 2, 5, 6] [8] [] [] ?_; refine AW.skip (seq (block (seq (r0U hC [1, 2, 5, 6, 17] [8] [(17, .bool (has mask (i : Int)))] [] [(0 ≤ mask ∧ (0 ≤ (i : Int) ∧ (i : Int) ≤ 64))] ?_ ?_))))
   ·
    exact ⟨(by omega), trivial⟩
   refine cdE e37 ?_ ?_
   ·
    intro h38q e39; refine r0U hC [1, 2, 5, 6] [8] [(5, .int .i64 (n1 * (getD (Graph.Rows g) i 0)))] [] [(0 ≤ (i : Int) ∧ (i : Int) < (length (Graph.Rows g) : Int)), (-9223372036854775808 ≤ (n1 * (getD (Graph.Rows g) i 0)) ∧ (n1 * (getD (Graph.Rows g) i 0)) ≤ 9223372036854775807)] ?_ ?_
    ·
     exact ⟨(by omega), (by have := times hI0.1.1 hI0.1.2 (hr (by omega)).1 (hr (by omega)).2; have := hp5 (by omega); omega), trivial⟩
    refine r0U hC [1, 2, 5, 6] [8] [(6, .int .i64 ((i + 1 : Nat) : Int))] [] [(-9223372036854775808 ≤ ((i + 1 : Nat) : Int) ∧ ((i + 1 : Nat) : Int) ≤ 9223372036854775807)] ?_ ?_
    ·
     exact ⟨(by omega), trivial⟩
    refine bk ((n1 * (getD (Graph.Rows g) i 0)), i + 1) e39 hk33 ?_ ?_
    · exact ⟨times hI0.1.1 hI0.1.2 (hr (by omega)).1 (hr (by omega)).2, by omega⟩
    · omega
   ·
    intro h40q e41; refine kpU [1, 2, 5, 6] [8] [] [] ?_; refine AW.skip (r0U hC [1, 2, 5, 6] [8] [(6, .int .i64 ((i + 1 : Nat) : Int))] [] [(-9223372036854775808 ≤ ((i + 1 : Nat) : Int) ∧ ((i + 1 : Nat) : Int) ≤ 9223372036854775807)] ?_ ?_)
    ·
     exact ⟨(by omega), trivial⟩
    refine bk (n1, i + 1) e41 hk33 ?_ ?_
    · exact ⟨⟨hI0.1.1, grow5 hI0.1.2⟩, by omega⟩
    · omega
  · intro h42q e43; refine kpU [1, 2, 5] [8] [] [] ?_; refine exit ?_; refine meet n1 (by kernel_rfl) ⟨?_, e43⟩; have := pow5 hI0.2; omega
 ·
  intro n1 hJ0 e44; have e45 := e0.trans (then_eq e44); refine seq (seq (r1U hC [1, 2, 5, 7] [8] [(7, .int .i64 0)] [] ?_)); refine lpB (ζ := Int) (fun x => ⟨[(5, .int .i64 x)], []⟩) (fun x => 0 ≤ x ∧ x ≤ 1000000000000000) (fun x => x) (α := Int × Nat) (fun x => ⟨[(1, .int .i64 mask), (2, .ref 8 1 0), (5, .int .i64 x.1), (7, .int .i64 ((x.2 : Nat) : Int))], [(8, .box 1 [.data (.slice (.int .i64)) ((Graph.Rows g) : List Int), .data (.slice (.named 0)) ((Graph.Edges g) : List Edge)])]⟩) (fun x => 0 ≤ x.1 ∧ x.1 ≤ 1000000000000000) (fun x => (length (Graph.Edges g)) - x.2) (fun k x => subsetSize_l1 g mask k x.1 x.2) (n1, 0) (by kernel_rfl) ?_ ?_ ?_
  · exact hJ0
  ·
   intro x k72q hI1 hk70 e71; obtain ⟨n, i⟩ := x; replace hI1 : 0 ≤ n ∧ n ≤ 1000000000000000 := hI1; have he := fun (h : i < g.Edges.length) => hV.edges _ (getD_mem g.Edges i Edge.zero h); have hn6 := hV.e6; have hn5 := hV.n5; refine seq (seq (r1U hC [1, 2, 5, 7, 29] [8] [(29, .bool (decide ((i : Int) < (length (Graph.Edges g) : Int))))] [] ?_)); refine cdE e71 ?_ ?_
   ·
    intro h73q e74; refine kpU [1, 2, 5, 7] [8] [] [] ?_; refine AW.skip (seq (block (seq (r0U hC [1, 2, 5, 7, 49] [8] [(49, .bool (bif (has mask (Edge.A (getD (Graph.Edges g) i Edge.zero))) then (has mask (Edge.B (getD (Graph.Edges g) i Edge.zero))) else false))] [] [(0 ≤ (i : Int) ∧ (i : Int) < (length (Graph.Edges g) : Int)), (0 ≤ mask ∧ (0 ≤ (Edge.A (getD (Graph.Edges g) i Edge.zero)) ∧ (Edge.A (getD (Graph.Edges g) i Edge.zero)) ≤ 64)), (((has mask (Edge.A (getD (Graph.Edges g) i Edge.zero))) = true) → (((has mask (Edge.A (getD (Graph.Edges g) i Edge.zero))) = true))), (((has mask (Edge.A (getD (Graph.Edges g) i Edge.zero))) = true) → (((has mask (Edge.A (getD (Graph.Edges g) i Edge.zero))) = true))), (((has mask (Edge.A (getD (Graph.Edges g) i Edge.zero))) = true) → (((has mask (Edge.A (getD (Graph.Edges g) i Edge.zero))) = true))), (((has mask (Edge.A (getD (Graph.Edges g) i Edge.zero))) = true) → (0 ≤ (i : Int) ∧ (i : Int) < (length (Graph.Edges g) : Int))), (((has mask (Edge.A (getD (Graph.Edges g) i Edge.zero))) = true) → (((has mask (Edge.A (getD (Graph.Edges g) i Edge.zero))) = true))), (((has mask (Edge.A (getD (Graph.Edges g) i Edge.zero))) = true) → (((has mask (Edge.A (getD (Graph.Edges g) i Edge.zero))) = true))), (((has mask (Edge.A (getD (Graph.Edges g) i Edge.zero))) = true) → (((has mask (Edge.A (getD (Graph.Edges g) i Edge.zero))) = true))), (((has mask (Edge.A (getD (Graph.Edges g) i Edge.zero))) = true) → (((has mask (Edge.A (getD (Graph.Edges g) i Edge.zero))) = true))), (((has mask (Edge.A (getD (Graph.Edges g) i Edge.zero))) = true) → (0 ≤ mask ∧ (0 ≤ (Edge.B (getD (Graph.Edges g) i Edge.zero)) ∧ (Edge.B (getD (Graph.Edges g) i Edge.zero)) ≤ 64))), (((has mask (Edge.A (getD (Graph.Edges g) i Edge.zero))) = true) → (((has mask (Edge.A (getD (Graph.Edges g) i Edge.zero))) = true)))] ?_ ?_))))
    ·
     exact ⟨(by omega), (by omega), (by intro g75; assumption), (by intro g76; assumption), (by intro g77; assumption), (by intro g78; omega), (by intro g79; assumption), (by intro g80; assumption), (by intro g81; assumption), (by intro g82; assumption), (by intro g83; omega), (by intro g84; assumption), trivial⟩
    refine cdE e74 ?_ ?_
    ·
     intro h85q e86; refine r0U hC [1, 2, 5, 7] [8] [(5, .int .i64 (n / (Edge.Den (getD (Graph.Edges g) i Edge.zero))))] [] [(0 ≤ (i : Int) ∧ (i : Int) < (length (Graph.Edges g) : Int)), (0 ≤ n ∧ 0 < (Edge.Den (getD (Graph.Edges g) i Edge.zero)))] ?_ ?_
     ·
      exact ⟨(by omega), (by omega), trivial⟩
     refine r0U hC [1, 2, 5, 7] [8] [(7, .int .i64 ((i + 1 : Nat) : Int))] [] [(-9223372036854775808 ≤ ((i + 1 : Nat) : Int) ∧ ((i + 1 : Nat) : Int) ≤ 9223372036854775807)] ?_ ?_
     ·
      exact ⟨(by omega), trivial⟩
     refine bk ((n / (Edge.Den (getD (Graph.Edges g) i Edge.zero))), i + 1) e86 hk70 ?_ ?_
     · have := divs hI1.1 (he (by omega)).2.2.2.1; omega
     · omega
    ·
     intro h87q e88; refine kpU [1, 2, 5, 7] [8] [] [] ?_; refine AW.skip (r0U hC [1, 2, 5, 7] [8] [(7, .int .i64 ((i + 1 : Nat) : Int))] [] [(-9223372036854775808 ≤ ((i + 1 : Nat) : Int) ∧ ((i + 1 : Nat) : Int) ≤ 9223372036854775807)] ?_ ?_)
     ·
      exact ⟨(by omega), trivial⟩
     refine bk (n, i + 1) e88 hk70 ?_ ?_
     · exact hI1
     · omega
   · intro h89q e90; refine kpU [5] [] [] [] ?_; refine exit ?_; refine meet n (by kernel_rfl) ⟨?_, e90⟩; exact hI1
  · intro n hJ1 e91; have e92 := e45.trans (then_eq e91); refine seq (r1 hC [4] [] ⟨[(4, .int .i64 (if 1 > n then 1 else n))], []⟩ ?_); exact ret (rS (.int .i64) e92)

def szIntS (a : List Int) (left : Int) : Int := (bif (decide ((left - (length a : Int)) < 0)) then (-1) else (left - (length a : Int)))

def szIntS_sp : FnSpec := mkSpec [.val (.slice (.int .i64)), .val (.int .i64)] [.val (.int .i64)] (fun (a : List Int) (left : Int) => 0 ≤ left) (fun (a : List Int) (left : Int) => [⟨(.int .i64), (szIntS a left)⟩])

theorem szIntS_ok : FnOK Try.prog 58 szIntS_sp := by
 have hC : CtxOK Try.prog (mkCtx tyL []) := CtxOK.nil tyOK; refine FnOK.of_body Try.func58 (by kernel_rfl) rfl (C := (mkCtx tyL [])) hC.ty (by kernel_rfl) ?_; intro (a : List Int) (left : Int) hwf hpre E; have hpre : 0 ≤ left := hpre; have hw_a : Wf ⟨(.slice (.int .i64)), (a : List Int)⟩ := hwf _ (List.Mem.head _); have hl_a : (length a : Int) ≤ 9223372036854775807 := hw_a.len; have hw_left : Wf ⟨(.int .i64), (left : Int)⟩ := hwf _ (List.Mem.tail _ (List.Mem.head _)); have hr_left : -9223372036854775808 ≤ left ∧ left ≤ 9223372036854775807 := hw_left.int_inv; have e0 : szIntS a left = szIntS a left := rfl; refine seq (r1U hC [0, 1] [] [] [] ?_); refine seq (r0 hC [1] [] ⟨[(1, .int .i64 (left - (length a : Int)))], []⟩ [(-9223372036854775808 ≤ (left - (length a : Int)) ∧ (left - (length a : Int)) ≤ 9223372036854775807)] ?_ ?_)
 ·
  exact ⟨(by omega), trivial⟩
 refine seq (seq (r1U hC [1, 10] [] [(10, .bool (decide ((left - (length a : Int)) < 0)))] [] ?_)); refine cdE e0 ?_ ?_
 · intro h1q e2; refine seq (r1 hC [4] [] ⟨[(4, .int .i64 (-1))], []⟩ ?_); exact ret (rS (.int .i64) e2)
 · intro h3q e4; refine kpU [1] [] [] [] ?_; refine AW.skip (seq (r1 hC [4] [] ⟨[(4, .int .i64 (left - (length a : Int)))], []⟩ ?_)); exact ret (rS (.int .i64) e4)

def szEdgeS (a : List Edge) (left : Int) : Int := (bif (decide ((left - (length a : Int)) < 0)) then (-1) else (left - (length a : Int)))

def szEdgeS_sp : FnSpec := mkSpec [.val (.slice (.named 0)), .val (.int .i64)] [.val (.int .i64)] (fun (a : List Edge) (left : Int) => 0 ≤ left) (fun (a : List Edge) (left : Int) => [⟨(.int .i64), (szEdgeS a left)⟩])

theorem szEdgeS_ok : FnOK Try.prog 59 szEdgeS_sp := by
 have hC : CtxOK Try.prog (mkCtx tyL []) := CtxOK.nil tyOK; refine FnOK.of_body Try.func59 (by kernel_rfl) rfl (C := (mkCtx tyL [])) hC.ty (by kernel_rfl) ?_; intro (a : List Edge) (left : Int) hwf hpre E; have hpre : 0 ≤ left := hpre; have hw_a : Wf ⟨(.slice (.named 0)), (a : List Edge)⟩ := hwf _ (List.Mem.head _); have hl_a : (length a : Int) ≤ 9223372036854775807 := hw_a.len; have hw_left : Wf ⟨(.int .i64), (left : Int)⟩ := hwf _ (List.Mem.tail _ (List.Mem.head _)); have hr_left : -9223372036854775808 ≤ left ∧ left ≤ 9223372036854775807 := hw_left.int_inv; have e0 : szEdgeS a left = szEdgeS a left := rfl; refine seq (r1U hC [0, 1] [] [] [] ?_); refine seq (r0 hC [1] [] ⟨[(1, .int .i64 (left - (length a : Int)))], []⟩ [(-9223372036854775808 ≤ (left - (length a : Int)) ∧ (left - (length a : Int)) ≤ 9223372036854775807)] ?_ ?_)
 ·
  exact ⟨(by omega), trivial⟩
 refine seq (seq (r1U hC [1, 10] [] [(10, .bool (decide ((left - (length a : Int)) < 0)))] [] ?_)); refine cdE e0 ?_ ?_
 · intro h1q e2; refine seq (r1 hC [4] [] ⟨[(4, .int .i64 (-1))], []⟩ ?_); exact ret (rS (.int .i64) e2)
 · intro h3q e4; refine kpU [1] [] [] [] ?_; refine AW.skip (seq (r1 hC [4] [] ⟨[(4, .int .i64 (left - (length a : Int)))], []⟩ ?_)); exact ret (rS (.int .i64) e4)

def szGraph (a : Graph) (left : Int) : Int := (bif (decide ((szIntS (Graph.Rows a) left) < 0)) then (-1) else (bif (decide ((szEdgeS (Graph.Edges a) (szIntS (Graph.Rows a) left)) < 0)) then (-1) else (szEdgeS (Graph.Edges a) (szIntS (Graph.Rows a) left))))

def szGraph_sp : FnSpec := mkSpec [.val (.named 1), .val (.int .i64)] [.val (.int .i64)] (fun (a : Graph) (left : Int) => 0 ≤ left) (fun (a : Graph) (left : Int) => [⟨(.int .i64), (szGraph a left)⟩])

theorem szGraph_ok : FnOK Try.prog 18 szGraph_sp := by
 have hC : CtxOK Try.prog (mkCtx tyL [(58, szIntS_sp), (59, szEdgeS_sp)]) := CtxOK.cons szIntS_ok (CtxOK.cons szEdgeS_ok (CtxOK.nil tyOK)); refine FnOK.of_body Try.func18 (by kernel_rfl) rfl (C := (mkCtx tyL [(58, szIntS_sp), (59, szEdgeS_sp)])) hC.ty (by kernel_rfl) ?_; intro (a : Graph) (left : Int) hwf hpre E; have hpre : 0 ≤ left := hpre; have e0 : szGraph a left = szGraph a left := rfl; refine seq (r1U hC [1, 2] [8] [(2, .ref 8 1 0)] [(8, .box 1 [.data (.slice (.int .i64)) ((Graph.Rows a) : List Int), .data (.slice (.named 0)) ((Graph.Edges a) : List Edge)])] ?_); refine seq (r0U hC [1, 2] [8] [(1, .int .i64 (szIntS (Graph.Rows a) left))] [] [(0 ≤ left)] ?_ ?_)
 ·
  exact ⟨(by omega), trivial⟩
 refine seq (seq (r1U hC [1, 2, 10] [8] [(10, .bool (decide ((szIntS (Graph.Rows a) left) < 0)))] [] ?_)); refine cdE e0 ?_ ?_
 · intro h1q e2; refine seq (r1 hC [4] [] ⟨[(4, .int .i64 (-1))], []⟩ ?_); exact ret (rS (.int .i64) e2)
 ·
  intro h3q e4; refine kpU [1, 2] [8] [] [] ?_; refine AW.skip (seq (r0 hC [1] [] ⟨[(1, .int .i64 (szEdgeS (Graph.Edges a) (szIntS (Graph.Rows a) left)))], []⟩ [(0 ≤ (szIntS (Graph.Rows a) left))] ?_ ?_))
  ·
   exact ⟨(by omega), trivial⟩
  refine seq (seq (r1U hC [1, 16] [] [(16, .bool (decide ((szEdgeS (Graph.Edges a) (szIntS (Graph.Rows a) left)) < 0)))] [] ?_)); refine cdE e4 ?_ ?_
  · intro h5q e6; refine seq (r1 hC [4] [] ⟨[(4, .int .i64 (-1))], []⟩ ?_); exact ret (rS (.int .i64) e6)
  · intro h7q e8; refine kpU [1] [] [] [] ?_; refine AW.skip (seq (r1 hC [4] [] ⟨[(4, .int .i64 (szEdgeS (Graph.Edges a) (szIntS (Graph.Rows a) left)))], []⟩ ?_)); exact ret (rS (.int .i64) e8)

def toIntS_l0 (a : List Int) : Nat → Nat → (List Int) → (List Int)
 | 0, i, out => out
 | k + 1, i, out => (bif (decide ((i : Int) < (length a : Int))) then (toIntS_l0 a k (i + 1) (set out i (getD a i 0))) else out)

def toIntS (a : List Int) : (List Int) := (andThen (toIntS_l0 a ((length a) - 0 + 1) 0 (replicate (length a) 0 : List Int)) (fun z => (fun (out : List Int) => out) z))

def toIntS_sp : FnSpec := mkSpec [.val (.slice (.int .i64))] [.own (.int .i64)] (fun (a : List Int) => (length a : Int) ≤ 1048576) (fun (a : List Int) => [⟨(.slice (.int .i64)), (toIntS a)⟩])

theorem toIntS_ok : FnOK Try.prog 28 toIntS_sp := by
 have hC : CtxOK Try.prog (mkCtx tyL []) := CtxOK.nil tyOK; refine FnOK.of_body Try.func28 (by kernel_rfl) rfl (C := (mkCtx tyL [])) hC.ty (by kernel_rfl) ?_; intro (a : List Int) hwf hpre E; have hpre : (length a : Int) ≤ 1048576 := hpre; have e0 : toIntS a = toIntS a := rfl; refine seq (r1U hC [0] [] [] [] ?_); refine seq (r0U hC [0, 3] [28] [(3, .arr 28 1)] [(28, .arr 1 (.int .i64) ((replicate (length a) 0 : List Int) : List Int))] [(0 ≤ (length a : Int) ∧ (length a : Int) ≤ (length a : Int) ∧ (length a : Int) ≤ 4294967296)] ?_ ?_)
 ·
  exact ⟨(by omega), trivial⟩
 refine seq (seq (r1U hC [0, 3, 4] [28] [(4, .int .i64 0)] [] ?_)); refine lpB (ζ := (List Int)) (fun x => ⟨[(3, .arr 28 1)], [(28, .arr 1 (.int .i64) (x : List Int))]⟩) (fun x => x.length = (length a)) (fun x => x) (α := Nat × (List Int)) (fun x => ⟨[(0, .data (.slice (.int .i64)) (a : List Int)), (3, .arr 28 1), (4, .int .i64 ((x.1 : Nat) : Int))], [(28, .arr 1 (.int .i64) (x.2 : List Int))]⟩) (fun x => x.2.length = (length a)) (fun x => (length a) - x.1) (fun k x => toIntS_l0 a k x.1 x.2) (0, (replicate (length a) 0 : List Int)) (by kernel_rfl) ?_ ?_ ?_
 · simp; done
 ·
  intro x k15q hI0 hk13 e14; obtain ⟨i, out⟩ := x; replace hI0 : out.length = (length a) := hI0; refine seq (seq (r1U hC [0, 3, 4, 11] [28] [(11, .bool (decide ((i : Int) < (length a : Int))))] [] ?_)); refine cdE e14 ?_ ?_
  ·
   intro h16q e17; refine kpU [0, 3, 4] [28] [] [] ?_; refine AW.skip (seq (block (r0U hC [0, 3, 4] [28] [] [(28, .arr 1 (.int .i64) ((set out i (getD a i 0)) : List Int))] [(0 ≤ (i : Int) ∧ (i : Int) < (length a : Int)), (0 ≤ (i : Int) ∧ (i : Int) < (length out : Int))] ?_ ?_)))
   ·
    exact ⟨(by omega), (by omega), trivial⟩
   refine r0U hC [0, 3, 4] [28] [(4, .int .i64 ((i + 1 : Nat) : Int))] [] [(-9223372036854775808 ≤ ((i + 1 : Nat) : Int) ∧ ((i + 1 : Nat) : Int) ≤ 9223372036854775807)] ?_ ?_
   ·
    exact ⟨(by omega), trivial⟩
   refine bk (i + 1, (set out i (getD a i 0))) e17 hk13 ?_ ?_
   · simp only [lens] at *; omega
   · omega
  · intro h18q e19; refine kpU [3] [28] [] [] ?_; refine exit ?_; refine meet out (by kernel_rfl) ⟨?_, e19⟩; assumption
 · intro out hJ0 e20; have e21 := e0.trans (then_eq e20); refine seq (r1U hC [2] [28] [(2, .arr 28 1)] [] ?_); exact ret (rS (.slice (.int .i64)) e21)

def toEdge (a : Edge) : Edge := a

def toEdge_sp : FnSpec := mkSpec [.val (.named 0)] [.val (.named 0)] (fun (a : Edge) => True) (fun (a : Edge) => [⟨(.named 0), (toEdge a)⟩])

theorem toEdge_ok : FnOK Try.prog 83 toEdge_sp := by
 have hC : CtxOK Try.prog (mkCtx tyL []) := CtxOK.nil tyOK; refine FnOK.of_body Try.func83 (by kernel_rfl) rfl (C := (mkCtx tyL [])) hC.ty (by kernel_rfl) ?_; intro (a : Edge) hwf hpre E; have e0 : toEdge a = toEdge a := rfl; refine seq (r1 hC [1, 2] [4, 8] ⟨[(1, .ref 4 1 0), (2, .ref 8 1 0)], [(4, .box 1 [.int .i64 (Edge.A a), .int .i64 (Edge.B a), .int .i64 (Edge.Den a)]), (8, .box 1 [.int .i64 0, .int .i64 0, .int .i64 0])]⟩ ?_); refine seq (r1U hC [1, 2, 3] [4, 8, 12] [(3, .ref 12 1 0)] [(12, .box 1 [.int .i64 0, .int .i64 0, .int .i64 0])] ?_); refine seq (r1U hC [1, 2, 3] [4, 8, 12] [] [(12, .box 1 [.int .i64 (Edge.A a), .int .i64 0, .int .i64 0])] ?_); refine seq (r1U hC [1, 2, 3] [4, 8, 12] [] [(12, .box 1 [.int .i64 (Edge.A a), .int .i64 (Edge.B a), .int .i64 0])] ?_); refine seq (r1U hC [2, 3] [8, 12] [] [(12, .box 1 [.int .i64 (Edge.A a), .int .i64 (Edge.B a), .int .i64 (Edge.Den a)])] ?_); refine seq (r1U hC [2] [8] [] [(8, .box 1 [.int .i64 (Edge.A a), .int .i64 (Edge.B a), .int .i64 (Edge.Den a)])] ?_); exact ret (rS (.named 0) e0)

def toEdgeS_l0 (a : List Edge) : Nat → Nat → (List Edge) → (List Edge)
 | 0, i, out => out
 | k + 1, i, out => (bif (decide ((i : Int) < (length a : Int))) then (toEdgeS_l0 a k (i + 1) (set out i (toEdge (getD a i Edge.zero)))) else out)

def toEdgeS (a : List Edge) : (List Edge) := (andThen (toEdgeS_l0 a ((length a) - 0 + 1) 0 (replicate (length a) Edge.zero : List Edge)) (fun z => (fun (out : List Edge) => out) z))

def toEdgeS_sp : FnSpec := mkSpec [.val (.slice (.named 0))] [.own (.named 0)] (fun (a : List Edge) => (length a : Int) ≤ 1048576) (fun (a : List Edge) => [⟨(.slice (.named 0)), (toEdgeS a)⟩])

theorem toEdgeS_ok : FnOK Try.prog 60 toEdgeS_sp := by
 have hC : CtxOK Try.prog (mkCtx tyL [(83, toEdge_sp)]) := CtxOK.cons toEdge_ok (CtxOK.nil tyOK); refine FnOK.of_body Try.func60 (by kernel_rfl) rfl (C := (mkCtx tyL [(83, toEdge_sp)])) hC.ty (by kernel_rfl) ?_; intro (a : List Edge) hwf hpre E; have hpre : (length a : Int) ≤ 1048576 := hpre; have e0 : toEdgeS a = toEdgeS a := rfl; refine seq (r1U hC [0] [] [] [] ?_); refine seq (r0U hC [0, 3] [28] [(3, .arr 28 1)] [(28, .arr 1 (.named 0) ((replicate (length a) Edge.zero : List Edge) : List Edge))] [(0 ≤ (length a : Int) ∧ (length a : Int) ≤ (length a : Int) ∧ (length a : Int) ≤ 4294967296)] ?_ ?_)
 ·
  exact ⟨(by omega), trivial⟩
 refine seq (seq (r1U hC [0, 3, 4] [28] [(4, .int .i64 0)] [] ?_)); refine lpB (ζ := (List Edge)) (fun x => ⟨[(3, .arr 28 1)], [(28, .arr 1 (.named 0) (x : List Edge))]⟩) (fun x => x.length = (length a)) (fun x => x) (α := Nat × (List Edge)) (fun x => ⟨[(0, .data (.slice (.named 0)) (a : List Edge)), (3, .arr 28 1), (4, .int .i64 ((x.1 : Nat) : Int))], [(28, .arr 1 (.named 0) (x.2 : List Edge))]⟩) (fun x => x.2.length = (length a)) (fun x => (length a) - x.1) (fun k x => toEdgeS_l0 a k x.1 x.2) (0, (replicate (length a) Edge.zero : List Edge)) (by kernel_rfl) ?_ ?_ ?_
 · simp; done
 ·
  intro x k15q hI0 hk13 e14; obtain ⟨i, out⟩ := x; replace hI0 : out.length = (length a) := hI0; refine seq (seq (r1U hC [0, 3, 4, 11] [28] [(11, .bool (decide ((i : Int) < (length a : Int))))] [] ?_)); refine cdE e14 ?_ ?_
  ·
   intro h16q e17; refine kpU [0, 3, 4] [28] [] [] ?_; refine AW.skip (seq (block (r0U hC [0, 3, 4] [28] [] [(28, .arr 1 (.named 0) ((set out i (toEdge (getD a i Edge.zero))) : List Edge))] [(0 ≤ (i : Int) ∧ (i : Int) < (length a : Int)), (True), (0 ≤ (i : Int) ∧ (i : Int) < (length out : Int))] ?_ ?_)))
   ·
    exact ⟨(by omega), trivial, (by omega), trivial⟩
   refine r0U hC [0, 3, 4] [28] [(4, .int .i64 ((i + 1 : Nat) : Int))] [] [(-9223372036854775808 ≤ ((i + 1 : Nat) : Int) ∧ ((i + 1 : Nat) : Int) ≤ 9223372036854775807)] ?_ ?_
   ·
    exact ⟨(by omega), trivial⟩
   refine bk (i + 1, (set out i (toEdge (getD a i Edge.zero)))) e17 hk13 ?_ ?_
   · simp only [lens] at *; omega
   · omega
  · intro h18q e19; refine kpU [3] [28] [] [] ?_; refine exit ?_; refine meet out (by kernel_rfl) ⟨?_, e19⟩; assumption
 · intro out hJ0 e20; have e21 := e0.trans (then_eq e20); refine seq (r1U hC [2] [28] [(2, .arr 28 1)] [] ?_); exact ret (rS (.slice (.named 0)) e21)

def toGraph (a : Graph) : Graph := (Graph.mk (toIntS (Graph.Rows a)) (toEdgeS (Graph.Edges a)))

def toGraph_sp : FnSpec := mkSpec [.val (.named 1)] [.val (.named 1)] (fun (a : Graph) => (length a.Rows : Int) ≤ 1048576 ∧ (length a.Edges : Int) ≤ 1048576) (fun (a : Graph) => [⟨(.named 1), (toGraph a)⟩])

theorem toGraph_ok : FnOK Try.prog 19 toGraph_sp := by
 have hC : CtxOK Try.prog (mkCtx tyL [(28, toIntS_sp), (60, toEdgeS_sp)]) := CtxOK.cons toIntS_ok (CtxOK.cons toEdgeS_ok (CtxOK.nil tyOK)); refine FnOK.of_body Try.func19 (by kernel_rfl) rfl (C := (mkCtx tyL [(28, toIntS_sp), (60, toEdgeS_sp)])) hC.ty (by kernel_rfl) ?_; intro (a : Graph) hwf hpre E; have hpre : (length a.Rows : Int) ≤ 1048576 ∧ (length a.Edges : Int) ≤ 1048576 := hpre; have e0 : toGraph a = toGraph a := rfl; refine seq (r1 hC [1, 2] [4, 8] ⟨[(1, .ref 4 1 0), (2, .ref 8 1 0)], [(4, .box 1 [.data (.slice (.int .i64)) ((Graph.Rows a) : List Int), .data (.slice (.named 0)) ((Graph.Edges a) : List Edge)]), (8, .box 1 [.nilsl, .nilsl])]⟩ ?_); refine seq (r1U hC [1, 2, 3] [4, 8, 12] [(3, .ref 12 1 0)] [(12, .box 1 [.nilsl, .nilsl])] ?_); refine seq (r0U hC [1, 2, 3] [4, 8, 12, 24] [] [(12, .box 1 [.arr 24 1, .nilsl]), (24, .arr 1 (.int .i64) ((toIntS (Graph.Rows a)) : List Int))] [((length (Graph.Rows a) : Int) ≤ 1048576)] ?_ ?_)
 ·
  exact ⟨(by omega), trivial⟩
 refine seq (r0U hC [2, 3] [8, 12, 24, 40] [] [(12, .box 1 [.arr 24 1, .arr 40 1]), (40, .arr 1 (.named 0) ((toEdgeS (Graph.Edges a)) : List Edge))] [((length (Graph.Edges a) : Int) ≤ 1048576)] ?_ ?_)
 ·
  exact ⟨(by omega), trivial⟩
 refine seq (r1U hC [2] [8, 24, 40] [] [(8, .box 1 [.arr 24 1, .arr 40 1])] ?_); exact ret (rS (.named 1) e0)

def eqIntS_l0 (a : List Int) (b : List Int) : Nat → Nat → Unit ⊕ Bool
 | 0, i => .inl ()
 | k + 1, i => (bif (decide ((i : Int) < (length a : Int))) then (bif ((getD a i 0) != (getD b i 0)) then (.inr false) else (eqIntS_l0 a b k (i + 1))) else (.inl ()))

def eqIntS (a : List Int) (b : List Int) : Bool := (bif ((length a : Int) != (length b : Int)) then false else (Sum.elim (fun _ => true) (fun r => r) (eqIntS_l0 a b ((length a) - 0 + 1) 0)))

def eqIntS_sp : FnSpec := mkSpec [.val (.slice (.int .i64)), .val (.slice (.int .i64))] [.val .bool] (fun (a : List Int) (b : List Int) => True) (fun (a : List Int) (b : List Int) => [⟨.bool, (eqIntS a b)⟩])

theorem eqIntS_ok : FnOK Try.prog 30 eqIntS_sp := by
 have hC : CtxOK Try.prog (mkCtx tyL []) := CtxOK.nil tyOK; have hM : Try.prog.follows .mixedOrders = true := Try.checked.mixed; refine FnOK.of_body Try.func30 (by kernel_rfl) rfl (C := (mkCtx tyL [])) hC.ty (by kernel_rfl) ?_; intro (a : List Int) (b : List Int) hwf hpre E; have hpre : True := hpre; have hw_a : Wf ⟨(.slice (.int .i64)), (a : List Int)⟩ := hwf _ (List.Mem.head _); have hl_a : (length a : Int) ≤ 9223372036854775807 := hw_a.len; have hw_b : Wf ⟨(.slice (.int .i64)), (b : List Int)⟩ := hwf _ (List.Mem.tail _ (List.Mem.head _)); have hl_b : (length b : Int) ≤ 9223372036854775807 := hw_b.len; have e0 : eqIntS a b = eqIntS a b := rfl; refine seq (r1U hC [0, 1] [] [] [] ?_); refine seq (seq (r1U hC [0, 1, 10] [] [(10, .bool ((length a : Int) != (length b : Int)))] [] ?_)); refine cdE e0 ?_ ?_
 · intro h1q e2; refine seq (r1 hC [4] [] ⟨[(4, .bool false)], []⟩ ?_); exact ret (rS .bool e2)
 ·
  intro h3q e4; refine kpU [0, 1] [] [] [] ?_; refine AW.skip (seq (seq (r1U hC [0, 1, 5] [] [(5, .int .i64 0)] [] ?_))); refine lpB (ζ := Unit) (fun x => ⟨[], []⟩) (fun x => True) (fun x => (.inl ())) (α := Nat) (fun x => ⟨[(0, .data (.slice (.int .i64)) (a : List Int)), (1, .data (.slice (.int .i64)) (b : List Int)), (5, .int .i64 (x : Int))], []⟩) (fun x => True) (fun x => (length a) - x) (fun k x => eqIntS_l0 a b k x) 0 (by kernel_rfl) ?_ ?_ ?_
  · exact trivial
  ·
   intro i k34q hI0 hk32 e33; refine seq (seq (r1U hC [0, 1, 5, 14] [] [(14, .bool (decide ((i : Int) < (length a : Int))))] [] ?_)); refine cdE e33 ?_ ?_
   ·
    intro h35q e36; refine kpU [0, 1, 5] [] [] [] ?_; refine AW.skip (seq (block (seq (d0U hC hM [0, 1, 5, 25] [] [(25, .bool ((getD a i 0) != (getD b i 0)))] [] [(0 ≤ (i : Int) ∧ (i : Int) < (length a : Int)), (0 ≤ (i : Int) ∧ (i : Int) < (length b : Int))] ?_ ?_))))
    ·
     exact ⟨(by omega), (by omega), trivial⟩
    refine cdE e36 ?_ ?_
    · intro h37q e38; refine seq (r1 hC [4] [] ⟨[(4, .bool false)], []⟩ ?_); refine ret ?_; have e39 := e4.trans (elim_r e38); exact rS .bool e39
    ·
     intro h40q e41; refine kpU [0, 1, 5] [] [] [] ?_; refine AW.skip (r0U hC [0, 1, 5] [] [(5, .int .i64 ((i + 1 : Nat) : Int))] [] [(-9223372036854775808 ≤ ((i + 1 : Nat) : Int) ∧ ((i + 1 : Nat) : Int) ≤ 9223372036854775807)] ?_ ?_)
     ·
      exact ⟨(by omega), trivial⟩
     refine bk (i + 1) e41 hk32 ?_ ?_
     · assumption
     · omega
   · intro h42q e43; refine kp [] [] ⟨[], []⟩ ?_; refine exit ?_; refine meet () (by kernel_rfl) ⟨?_, e43⟩; assumption
  · intro x hJ0 e44; have e45 := e4.trans (elim_l e44); refine seq (r1 hC [4] [] ⟨[(4, .bool true)], []⟩ ?_); exact ret (rS .bool e45)

def eqEdge (a : Edge) (b : Edge) : Bool := (bif ((Edge.A a) != (Edge.A b)) then false else (bif ((Edge.B a) != (Edge.B b)) then false else (bif ((Edge.Den a) != (Edge.Den b)) then false else true)))

def eqEdge_sp : FnSpec := mkSpec [.val (.named 0), .val (.named 0)] [.val .bool] (fun (a : Edge) (b : Edge) => True) (fun (a : Edge) (b : Edge) => [⟨.bool, (eqEdge a b)⟩])

theorem eqEdge_ok : FnOK Try.prog 84 eqEdge_sp := by
 have hC : CtxOK Try.prog (mkCtx tyL []) := CtxOK.nil tyOK; refine FnOK.of_body Try.func84 (by kernel_rfl) rfl (C := (mkCtx tyL [])) hC.ty (by kernel_rfl) ?_; intro (a : Edge) (b : Edge) hwf hpre E; have e0 : eqEdge a b = eqEdge a b := rfl; refine seq (r1 hC [2, 3] [8, 12] ⟨[(2, .ref 8 1 0), (3, .ref 12 1 0)], [(8, .box 1 [.int .i64 (Edge.A a), .int .i64 (Edge.B a), .int .i64 (Edge.Den a)]), (12, .box 1 [.int .i64 (Edge.A b), .int .i64 (Edge.B b), .int .i64 (Edge.Den b)])]⟩ ?_); refine seq (seq (r1U hC [2, 3, 9] [8, 12] [(9, .bool ((Edge.A a) != (Edge.A b)))] [] ?_)); refine cdE e0 ?_ ?_
 · intro h1q e2; refine seq (r1 hC [4] [] ⟨[(4, .bool false)], []⟩ ?_); exact ret (rS .bool e2)
 ·
  intro h3q e4; refine kpU [2, 3] [8, 12] [] [] ?_; refine AW.skip (seq (seq (r1U hC [2, 3, 14] [8, 12] [(14, .bool ((Edge.B a) != (Edge.B b)))] [] ?_))); refine cdE e4 ?_ ?_
  · intro h5q e6; refine seq (r1 hC [4] [] ⟨[(4, .bool false)], []⟩ ?_); exact ret (rS .bool e6)
  ·
   intro h7q e8; refine kpU [2, 3] [8, 12] [] [] ?_; refine AW.skip (seq (seq (r1 hC [19] [] ⟨[(19, .bool ((Edge.Den a) != (Edge.Den b)))], []⟩ ?_))); refine cdE e8 ?_ ?_
   · intro h9q e10; refine seq (r1 hC [4] [] ⟨[(4, .bool false)], []⟩ ?_); exact ret (rS .bool e10)
   · intro h11q e12; refine kp [] [] ⟨[], []⟩ ?_; refine AW.skip (seq (r1 hC [4] [] ⟨[(4, .bool true)], []⟩ ?_)); exact ret (rS .bool e12)

def eqEdgeS_l0 (a : List Edge) (b : List Edge) : Nat → Nat → Unit ⊕ Bool
 | 0, i => .inl ()
 | k + 1, i => (bif (decide ((i : Int) < (length a : Int))) then (bif (!(eqEdge (getD a i Edge.zero) (getD b i Edge.zero))) then (.inr false) else (eqEdgeS_l0 a b k (i + 1))) else (.inl ()))

def eqEdgeS (a : List Edge) (b : List Edge) : Bool := (bif ((length a : Int) != (length b : Int)) then false else (Sum.elim (fun _ => true) (fun r => r) (eqEdgeS_l0 a b ((length a) - 0 + 1) 0)))

def eqEdgeS_sp : FnSpec := mkSpec [.val (.slice (.named 0)), .val (.slice (.named 0))] [.val .bool] (fun (a : List Edge) (b : List Edge) => True) (fun (a : List Edge) (b : List Edge) => [⟨.bool, (eqEdgeS a b)⟩])

theorem eqEdgeS_ok : FnOK Try.prog 61 eqEdgeS_sp := by
 have hC : CtxOK Try.prog (mkCtx tyL [(84, eqEdge_sp)]) := CtxOK.cons eqEdge_ok (CtxOK.nil tyOK); have hM : Try.prog.follows .mixedOrders = true := Try.checked.mixed; refine FnOK.of_body Try.func61 (by kernel_rfl) rfl (C := (mkCtx tyL [(84, eqEdge_sp)])) hC.ty (by kernel_rfl) ?_; intro (a : List Edge) (b : List Edge) hwf hpre E; have hpre : True := hpre; have hw_a : Wf ⟨(.slice (.named 0)), (a : List Edge)⟩ := hwf _ (List.Mem.head _); have hl_a : (length a : Int) ≤ 9223372036854775807 := hw_a.len; have hw_b : Wf ⟨(.slice (.named 0)), (b : List Edge)⟩ := hwf _ (List.Mem.tail _ (List.Mem.head _)); have hl_b : (length b : Int) ≤ 9223372036854775807 := hw_b.len; have e0 : eqEdgeS a b = eqEdgeS a b := rfl; refine seq (r1U hC [0, 1] [] [] [] ?_); refine seq (seq (r1U hC [0, 1, 10] [] [(10, .bool ((length a : Int) != (length b : Int)))] [] ?_)); refine cdE e0 ?_ ?_
 · intro h1q e2; refine seq (r1 hC [4] [] ⟨[(4, .bool false)], []⟩ ?_); exact ret (rS .bool e2)
 ·
  intro h3q e4; refine kpU [0, 1] [] [] [] ?_; refine AW.skip (seq (seq (r1U hC [0, 1, 5] [] [(5, .int .i64 0)] [] ?_))); refine lpB (ζ := Unit) (fun x => ⟨[], []⟩) (fun x => True) (fun x => (.inl ())) (α := Nat) (fun x => ⟨[(0, .data (.slice (.named 0)) (a : List Edge)), (1, .data (.slice (.named 0)) (b : List Edge)), (5, .int .i64 (x : Int))], []⟩) (fun x => True) (fun x => (length a) - x) (fun k x => eqEdgeS_l0 a b k x) 0 (by kernel_rfl) ?_ ?_ ?_
  · exact trivial
  ·
   intro i k34q hI0 hk32 e33; refine seq (seq (r1U hC [0, 1, 5, 14] [] [(14, .bool (decide ((i : Int) < (length a : Int))))] [] ?_)); refine cdE e33 ?_ ?_
   ·
    intro h35q e36; refine kpU [0, 1, 5] [] [] [] ?_; refine AW.skip (seq (block (seq (d0U hC hM [0, 1, 5, 26] [] [(26, .bool (!(eqEdge (getD a i Edge.zero) (getD b i Edge.zero))))] [] [(0 ≤ (i : Int) ∧ (i : Int) < (length a : Int)), (0 ≤ (i : Int) ∧ (i : Int) < (length b : Int)), (True)] ?_ ?_))))
    ·
     exact ⟨(by omega), (by omega), trivial, trivial⟩
    refine cdE e36 ?_ ?_
    · intro h37q e38; refine seq (r1 hC [4] [] ⟨[(4, .bool false)], []⟩ ?_); refine ret ?_; have e39 := e4.trans (elim_r e38); exact rS .bool e39
    ·
     intro h40q e41; refine kpU [0, 1, 5] [] [] [] ?_; refine AW.skip (r0U hC [0, 1, 5] [] [(5, .int .i64 ((i + 1 : Nat) : Int))] [] [(-9223372036854775808 ≤ ((i + 1 : Nat) : Int) ∧ ((i + 1 : Nat) : Int) ≤ 9223372036854775807)] ?_ ?_)
     ·
      exact ⟨(by omega), trivial⟩
     refine bk (i + 1) e41 hk32 ?_ ?_
     · assumption
     · omega
   · intro h42q e43; refine kp [] [] ⟨[], []⟩ ?_; refine exit ?_; refine meet () (by kernel_rfl) ⟨?_, e43⟩; assumption
  · intro x hJ0 e44; have e45 := e4.trans (elim_l e44); refine seq (r1 hC [4] [] ⟨[(4, .bool true)], []⟩ ?_); exact ret (rS .bool e45)

def eqGraph (a : Graph) (b : Graph) : Bool := (bif (!(eqIntS (Graph.Rows a) (Graph.Rows b))) then false else (bif (!(eqEdgeS (Graph.Edges a) (Graph.Edges b))) then false else true))

def eqGraph_sp : FnSpec := mkSpec [.val (.named 1), .val (.named 1)] [.val .bool] (fun (a : Graph) (b : Graph) => True) (fun (a : Graph) (b : Graph) => [⟨.bool, (eqGraph a b)⟩])

theorem eqGraph_ok : FnOK Try.prog 20 eqGraph_sp := by
 have hC : CtxOK Try.prog (mkCtx tyL [(30, eqIntS_sp), (61, eqEdgeS_sp)]) := CtxOK.cons eqIntS_ok (CtxOK.cons eqEdgeS_ok (CtxOK.nil tyOK)); refine FnOK.of_body Try.func20 (by kernel_rfl) rfl (C := (mkCtx tyL [(30, eqIntS_sp), (61, eqEdgeS_sp)])) hC.ty (by kernel_rfl) ?_; intro (a : Graph) (b : Graph) hwf hpre E; have e0 : eqGraph a b = eqGraph a b := rfl; refine seq (r1 hC [2, 3] [8, 12] ⟨[(2, .ref 8 1 0), (3, .ref 12 1 0)], [(8, .box 1 [.data (.slice (.int .i64)) ((Graph.Rows a) : List Int), .data (.slice (.named 0)) ((Graph.Edges a) : List Edge)]), (12, .box 1 [.data (.slice (.int .i64)) ((Graph.Rows b) : List Int), .data (.slice (.named 0)) ((Graph.Edges b) : List Edge)])]⟩ ?_); refine seq (seq (r0U hC [2, 3, 10] [8, 12] [(10, .bool (!(eqIntS (Graph.Rows a) (Graph.Rows b))))] [] [(True)] ?_ ?_))
 ·
  exact ⟨trivial, trivial⟩
 refine cdE e0 ?_ ?_
 · intro h1q e2; refine seq (r1 hC [4] [] ⟨[(4, .bool false)], []⟩ ?_); exact ret (rS .bool e2)
 ·
  intro h3q e4; refine kpU [2, 3] [8, 12] [] [] ?_; refine AW.skip (seq (seq (r0 hC [16] [] ⟨[(16, .bool (!(eqEdgeS (Graph.Edges a) (Graph.Edges b))))], []⟩ [(True)] ?_ ?_)))
  ·
   exact ⟨trivial, trivial⟩
  refine cdE e4 ?_ ?_
  · intro h5q e6; refine seq (r1 hC [4] [] ⟨[(4, .bool false)], []⟩ ?_); exact ret (rS .bool e6)
  · intro h7q e8; refine kp [] [] ⟨[], []⟩ ?_; refine AW.skip (seq (r1 hC [4] [] ⟨[(4, .bool true)], []⟩ ?_)); exact ret (rS .bool e8)

theorem szIntS_le {a : List Int} {l : Int} (h : ¬ szIntS a l < 0) : (length a : Int) ≤ l ∧ szIntS a l ≤ l := by
 unfold szIntS at *; by_cases e : l - (length a : Int) < 0
 · rw [show decide (l - (length a : Int) < 0) = true by simp [e], cond_true] at h; omega
 · rw [show decide (l - (length a : Int) < 0) = false by simp; omega, cond_false] at *; omega

theorem szEdgeS_le {a : List Edge} {l : Int} (h : ¬ szEdgeS a l < 0) : (length a : Int) ≤ l ∧ szEdgeS a l ≤ l := by
 unfold szEdgeS at *; by_cases e : l - (length a : Int) < 0
 · rw [show decide (l - (length a : Int) < 0) = true by simp [e], cond_true] at h; omega
 · rw [show decide (l - (length a : Int) < 0) = false by simp; omega, cond_false] at *; omega

theorem szGraph_le {a : Graph} {l : Int} (h : ¬ szGraph a l < 0) : (length a.Rows : Int) ≤ l ∧ (length a.Edges : Int) ≤ l := by
 unfold szGraph at h; by_cases h1 : szIntS a.Rows l < 0
 · rw [decide_eq_true h1, cond_true] at h; exact absurd (by decide) h
 ·
  rw [decide_eq_false h1, cond_false] at h; have e1 := szIntS_le h1; by_cases h2 : szEdgeS a.Edges (szIntS a.Rows l) < 0
  · rw [decide_eq_true h2, cond_true] at h; exact absurd (by decide) h
  · have e2 := szEdgeS_le h2; omega

end
end Go.Proofs.Ytgbapklfgjnggaa
