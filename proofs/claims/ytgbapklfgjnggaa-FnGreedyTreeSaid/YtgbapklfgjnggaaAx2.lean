/-
  A part of the proof of this claim (Ax2): what functions of the program compute, and plain facts of that. No conditions.
-/
import Derived.Test.YtgbapklfgjnggaaAx1
set_option linter.all false
namespace Go.Proofs.Ytgbapklfgjnggaa
open Go Go.Am
noncomputable section

theorem pow5 {i : Nat} (h : i ≤ 5) : (1 : Int) ≤ 1000 ^ i ∧ (1000 : Int) ^ i ≤ 1000000000000000 := by
 match i, h with
 | 0, _ | 1, _ | 2, _ | 3, _ | 4, _ | 5, _ => decide

theorem pow2 {n : Nat} (h : n ≤ 40) : (1 : Int) ≤ 1 * 2 ^ n ∧ (1 : Int) * 2 ^ n ≤ 1099511627776 := by
 have h1 : 2 ^ n ≤ 2 ^ 40 := Nat.pow_le_pow_right (by decide) h
 have h2 : 1 ≤ 2 ^ n := Nat.one_le_two_pow
 have : ((2 : Int) ^ n) = ((2 ^ n : Nat) : Int) := by push_cast; rfl
 omega

theorem times {n r : Int} {i : Nat} (h1 : 1 ≤ n) (h2 : n ≤ 1000 ^ i) (h3 : 1 ≤ r) (h4 : r ≤ 1000) : 1 ≤ n * r ∧ n * r ≤ 1000 ^ (i + 1) := by
 constructor
 ·
  have := Int.mul_le_mul h1 h3 (by decide) (by omega)
  simpa using this
 ·
  rw [Int.pow_succ]
  exact Int.mul_le_mul h2 h4 (by omega) (by omega)

theorem grow5 {n : Int} {i : Nat} (h2 : n ≤ 1000 ^ i) : n ≤ 1000 ^ (i + 1) := by
 have : (0 : Int) ≤ 1000 ^ i := Int.pow_nonneg (by decide)
 rw [Int.pow_succ]
 omega

theorem divs {n d : Int} (h1 : 0 ≤ n) (h2 : 1 ≤ d) : 0 ≤ n / d ∧ n / d ≤ n := ⟨Int.ediv_nonneg h1 (by omega), Int.ediv_le_self _ h1⟩

def gAll (g : Graph) : Int := (((1 : Int) * 2 ^ (List.length (Graph.Rows g))) - 1)

def gAll_sp : FnSpec := mkSpec [.rd (.named 1)] [.val (.int .i64)] (fun (g : Graph) => g.Rows.length ≤ 40) (fun (g : Graph) => [⟨(.int .i64), (gAll g)⟩])

theorem gAll_ok : FnOK Try.prog 53 gAll_sp := by
 have hC : CtxOK Try.prog (mkCtx tyL []) := CtxOK.nil tyOK
 refine FnOK.of_body Try.func53 (by kernel_rfl) rfl (C := (mkCtx tyL [])) hC.ty (by kernel_rfl) ?_
 intro (g : Graph) hwf hpre E
 have hpre : g.Rows.length ≤ 40 := hpre
 have hw_g : Wf ⟨(.named 1), (g : Graph)⟩ := hwf _ (List.Mem.head _)
 have hl_g_Rows : ((List.length (Graph.Rows g) : Nat) : Int) ≤ 9223372036854775807 := (hw_g.field (tv := ⟨(.slice (.int .i64)), Graph.Rows g⟩) (List.Mem.head _)).len
 have hl_g_Edges : ((List.length (Graph.Edges g) : Nat) : Int) ≤ 9223372036854775807 := (hw_g.field (tv := ⟨(.slice (.named 0)), Graph.Edges g⟩) (List.Mem.tail _ (List.Mem.head _))).len
 have e0 : gAll g = gAll g := rfl
 refine AW.seq (AW.r1U hC [0] [] [] [] ?_)
 refine AW.seq (AW.r0 hC [2] [] ⟨[(2, .int .i64 (((1 : Int) * 2 ^ (List.length (Graph.Rows g))) - 1))], []⟩ [(0 ≤ ((List.length (Graph.Rows g) : Nat) : Int) ∧ ((List.length (Graph.Rows g) : Nat) : Int) ≤ 64), (-9223372036854775808 ≤ ((1 : Int) * 2 ^ (List.length (Graph.Rows g))) ∧ ((1 : Int) * 2 ^ (List.length (Graph.Rows g))) ≤ 9223372036854775807), (-9223372036854775808 ≤ (((1 : Int) * 2 ^ (List.length (Graph.Rows g))) - 1) ∧ (((1 : Int) * 2 ^ (List.length (Graph.Rows g))) - 1) ≤ 9223372036854775807)] ?_ ?_)
 ·
  refine ⟨?_, ?_, ?_, trivial⟩
  ·
   omega
  ·
   have := pow2 hpre
   omega
  ·
   have := pow2 hpre
   omega
 exact AW.ret (AW.retE (β := Int) (fun v => [⟨(.int .i64), v⟩]) (fun v => []) (v := (((1 : Int) * 2 ^ (List.length (Graph.Rows g))) - 1)) e0 (by kernel_rfl) rfl rfl)

def gSize_l0 (g : Graph) (mask : Int) : Nat → Int → Nat → Int
 | 0, n1, v15 => n1
 | k + 1, n1, v15 => (bif (decide (((v15 : Nat) : Int) < ((List.length (Graph.Rows g) : Nat) : Int))) then (bif ((bits .and .i64 mask ((1 : Int) * 2 ^ v15)) != 0) then (gSize_l0 g mask k (n1 * (List.getD (Graph.Rows g) v15 0)) (v15 + 1)) else (gSize_l0 g mask k n1 (v15 + 1))) else n1)

def gSize_l1 (g : Graph) (mask : Int) : Nat → Int → Nat → Int
 | 0, n, v34 => n
 | k + 1, n, v34 => (bif (decide (((v34 : Nat) : Int) < ((List.length (Graph.Edges g) : Nat) : Int))) then (bif (bif ((bits .and .i64 mask ((1 : Int) * 2 ^ (Int.toNat (Edge.A (List.getD (Graph.Edges g) v34 Edge.zero))))) != 0) then ((bits .and .i64 mask ((1 : Int) * 2 ^ (Int.toNat (Edge.B (List.getD (Graph.Edges g) v34 Edge.zero))))) != 0) else false) then (gSize_l1 g mask k (n / (Edge.Den (List.getD (Graph.Edges g) v34 Edge.zero))) (v34 + 1)) else (gSize_l1 g mask k n (v34 + 1))) else n)

def gSize (g : Graph) (mask : Int) : Int := (Go.Am.andThen (gSize_l0 g mask ((List.length (Graph.Rows g)) - 0 + 1) 1 0) (fun z => (fun (n1 : Int) => (Go.Am.andThen (gSize_l1 g mask ((List.length (Graph.Edges g)) - 0 + 1) n1 0) (fun z => (fun (n : Int) => (if 1 > n then 1 else n)) z))) z))

def gSize_sp : FnSpec := mkSpec [.rd (.named 1), .val (.int .i64)] [.val (.int .i64)] (fun (g : Graph) (mask : Int) => VG g ∧ True) (fun (g : Graph) (mask : Int) => [⟨(.int .i64), (gSize g mask)⟩])

theorem gSize_ok : FnOK Try.prog 54 gSize_sp := by
 have hC : CtxOK Try.prog (mkCtx tyL []) := CtxOK.nil tyOK
 refine FnOK.of_body Try.func54 (by kernel_rfl) rfl (C := (mkCtx tyL [])) hC.ty (by kernel_rfl) ?_
 intro (g : Graph) (mask : Int) hwf hpre E
 have hpre : VG g ∧ True := hpre
 have hw_g : Wf ⟨(.named 1), (g : Graph)⟩ := hwf _ (List.Mem.head _)
 have hl_g_Rows : ((List.length (Graph.Rows g) : Nat) : Int) ≤ 9223372036854775807 := (hw_g.field (tv := ⟨(.slice (.int .i64)), Graph.Rows g⟩) (List.Mem.head _)).len
 have hl_g_Edges : ((List.length (Graph.Edges g) : Nat) : Int) ≤ 9223372036854775807 := (hw_g.field (tv := ⟨(.slice (.named 0)), Graph.Edges g⟩) (List.Mem.tail _ (List.Mem.head _))).len
 have hw_mask : Wf ⟨(.int .i64), (mask : Int)⟩ := hwf _ (List.Mem.tail _ (List.Mem.head _))
 have hr_mask : -9223372036854775808 ≤ mask ∧ mask ≤ 9223372036854775807 := hw_mask.int_inv
 have hV : VG g := hpre.1
 have e0 : gSize g mask = gSize g mask := rfl
 refine AW.seq (AW.r1U hC [0, 1] [] [] [] ?_)
 refine AW.seq (AW.r1U hC [0, 1, 5] [] [(5, .int .i64 1)] [] ?_)
 refine AW.seq (AW.seq (AW.r1U hC [0, 1, 5, 13, 14, 15] [] [(13, .data (.slice (.int .i64)) ((Graph.Rows g) : List Int)), (14, .int .i64 ((List.length (Graph.Rows g) : Nat) : Int)), (15, .int .i64 0)] [] ?_))
 refine AW.cutQ (α := Int) (fun x => ⟨[(0, .dref (.named 1) (g : Graph)), (1, .int .i64 mask), (5, .int .i64 x)], []⟩) (fun x => (0 ≤ x ∧ x ≤ 1000000000000000) ∧ (gSize_l0 g mask ((List.length (Graph.Rows g)) - 0 + 1) 1 0) = x) ?_ ?_
 ·
  skip
  refine AW.block (AW.loop (α := Int × Nat) (fun x => ⟨[(0, .dref (.named 1) (g : Graph)), (1, .int .i64 mask), (5, .int .i64 x.1), (13, .data (.slice (.int .i64)) ((Graph.Rows g) : List Int)), (14, .int .i64 ((List.length (Graph.Rows g) : Nat) : Int)), (15, .int .i64 ((x.2 : Nat) : Int))], []⟩) (fun x => ((1 ≤ x.1 ∧ x.1 ≤ 1000 ^ x.2) ∧ x.2 ≤ 5) ∧ ∃ k, (List.length (Graph.Rows g)) - x.2 < k ∧ (gSize_l0 g mask ((List.length (Graph.Rows g)) - 0 + 1) 1 0) = gSize_l0 g mask k x.1 x.2) (fun x => (List.length (Graph.Rows g)) - x.2) (1, 0) (by kernel_rfl) ⟨?_, _, Nat.lt_succ_self _, rfl⟩ ?_)
  ·
   show (1 ≤ 1 ∧ 1 ≤ 1000 ^ 0) ∧ 0 ≤ 5
   exact ⟨⟨by decide, by decide⟩, by omega⟩
  ·
   intro x hR
   obtain ⟨n1, v15⟩ := x
   obtain ⟨hI0, k35, hk33, e34⟩ := hR
   replace hI0 : (1 ≤ n1 ∧ n1 ≤ 1000 ^ v15) ∧ v15 ≤ 5 := hI0
   replace hk33 : (List.length (Graph.Rows g)) - v15 < k35 := hk33
   obtain ⟨k35q, rfl⟩ : ∃ k, k35 = k + 1 := ⟨k35 - 1, by omega⟩
   have hr := fun (h : v15 < g.Rows.length) => hV.rows _ (getD_mem g.Rows v15 0 h)
   have hn5 := hV.n5
   have hp5 := fun (h : v15 < 5) => pow5 (i := v15 + 1) (by omega)
   refine AW.seq (AW.r1U hC [0, 1, 5, 13, 14, 15, 16] [] [(16, .bool (decide (((v15 : Nat) : Int) < ((List.length (Graph.Rows g) : Nat) : Int))))] [] ?_)
   refine AW.seq (AW.cd (decide (((v15 : Nat) : Int) < ((List.length (Graph.Rows g) : Nat) : Int))) ?_ ?_)
   ·
    intro h36
    have h36q : ((v15 : Nat) : Int) < ((List.length (Graph.Rows g) : Nat) : Int) := (of_decide_eq_true h36)
    have e37 := e34.trans (Go.Am.bif_t h36)
    refine AW.kpU [0, 1, 5, 13, 14, 15] [] [] [] ?_
    refine AW.skip (AW.seq (AW.block (AW.seq (AW.r0U hC [0, 1, 5, 6, 7, 13, 14, 15] [] [(6, .int .i64 ((v15 : Nat) : Int)), (7, .int .i64 (List.getD (Graph.Rows g) v15 0))] [] [(0 ≤ ((v15 : Nat) : Int) ∧ ((v15 : Nat) : Int) < ((List.length (Graph.Rows g) : Nat) : Int))] ?_ ?_))))
    ·
     refine ⟨?_, trivial⟩
     ·
      omega
    refine AW.seq (AW.r0U hC [0, 1, 5, 7, 13, 14, 15, 24] [] [(24, .bool ((bits .and .i64 mask ((1 : Int) * 2 ^ v15)) != 0))] [] [(0 ≤ ((v15 : Nat) : Int) ∧ ((v15 : Nat) : Int) ≤ 64), (-9223372036854775808 ≤ ((1 : Int) * 2 ^ v15) ∧ ((1 : Int) * 2 ^ v15) ≤ 9223372036854775807)] ?_ ?_)
    ·
     refine ⟨?_, ?_, trivial⟩
     ·
      omega
     ·
      have := pow2 (n := v15) (by omega)
      omega
    refine AW.cd ((bits .and .i64 mask ((1 : Int) * 2 ^ v15)) != 0) ?_ ?_
    ·
     intro h38
     have h38q : (bits .and .i64 mask ((1 : Int) * 2 ^ v15)) ≠ 0 := (Go.Am.bne_pos h38)
     have e39 := e37.trans (Go.Am.bif_t h38)
     refine AW.r0U hC [0, 1, 5, 13, 14, 15] [] [(5, .int .i64 (n1 * (List.getD (Graph.Rows g) v15 0)))] [] [(-9223372036854775808 ≤ (n1 * (List.getD (Graph.Rows g) v15 0)) ∧ (n1 * (List.getD (Graph.Rows g) v15 0)) ≤ 9223372036854775807)] ?_ ?_
     ·
      refine ⟨?_, trivial⟩
      ·
       have := times hI0.1.1 hI0.1.2 (hr (by omega)).1 (hr (by omega)).2
       have := hp5 (by omega)
       omega
     refine AW.r0U hC [0, 1, 5, 13, 14, 15] [] [(15, .int .i64 ((v15 + 1 : Nat) : Int))] [] [(-9223372036854775808 ≤ ((v15 + 1 : Nat) : Int) ∧ ((v15 + 1 : Nat) : Int) ≤ 9223372036854775807)] ?_ ?_
     ·
      refine ⟨?_, trivial⟩
      ·
       omega
     refine AW.back (x := (n1, v15)) ((n1 * (List.getD (Graph.Rows g) v15 0)), v15 + 1) (by kernel_rfl) ⟨?_, k35q, ?_, e39⟩ ?_
     ·
      show (1 ≤ (n1 * (List.getD (Graph.Rows g) v15 0)) ∧ (n1 * (List.getD (Graph.Rows g) v15 0)) ≤ 1000 ^ (v15 + 1)) ∧ (v15 + 1) ≤ 5
      exact ⟨times hI0.1.1 hI0.1.2 (hr (by omega)).1 (hr (by omega)).2, by omega⟩
     ·
      show (List.length (Graph.Rows g)) - (v15 + 1) < k35q
      omega
     ·
      show (List.length (Graph.Rows g)) - (v15 + 1) < (List.length (Graph.Rows g)) - v15
      omega
    ·
     intro h40
     have h40q : (bits .and .i64 mask ((1 : Int) * 2 ^ v15)) = 0 := (Go.Am.bne_neg h40)
     have e41 := e37.trans (Go.Am.bif_f h40)
     refine AW.kpU [0, 1, 5, 13, 14, 15] [] [] [] ?_
     refine AW.skip (AW.r0U hC [0, 1, 5, 13, 14, 15] [] [(15, .int .i64 ((v15 + 1 : Nat) : Int))] [] [(-9223372036854775808 ≤ ((v15 + 1 : Nat) : Int) ∧ ((v15 + 1 : Nat) : Int) ≤ 9223372036854775807)] ?_ ?_)
     ·
      refine ⟨?_, trivial⟩
      ·
       omega
     refine AW.back (x := (n1, v15)) (n1, v15 + 1) (by kernel_rfl) ⟨?_, k35q, ?_, e41⟩ ?_
     ·
      show (1 ≤ n1 ∧ n1 ≤ 1000 ^ (v15 + 1)) ∧ (v15 + 1) ≤ 5
      exact ⟨⟨hI0.1.1, grow5 hI0.1.2⟩, by omega⟩
     ·
      show (List.length (Graph.Rows g)) - (v15 + 1) < k35q
      omega
     ·
      show (List.length (Graph.Rows g)) - (v15 + 1) < (List.length (Graph.Rows g)) - v15
      omega
   ·
    intro h42
    have h42q : ¬ (((v15 : Nat) : Int) < ((List.length (Graph.Rows g) : Nat) : Int)) := (of_decide_eq_false h42)
    have e43 := e34.trans (Go.Am.bif_f h42)
    refine AW.kpU [0, 1, 5] [] [] [] ?_
    refine AW.exit ?_
    refine AW.meet n1 (by kernel_rfl) ⟨?_, e43⟩
    show 0 ≤ n1 ∧ n1 ≤ 1000000000000000
    have := pow5 hI0.2
    omega
 ·
  intro n1 hR
  obtain ⟨hJ0, e44⟩ := hR
  replace hJ0 : 0 ≤ n1 ∧ n1 ≤ 1000000000000000 := hJ0
  have e45 := e0.trans (Go.Am.then_eq e44)
  refine AW.seq (AW.seq (AW.r1U hC [1, 5, 32, 33, 34] [] [(32, .data (.slice (.named 0)) ((Graph.Edges g) : List Edge)), (33, .int .i64 ((List.length (Graph.Edges g) : Nat) : Int)), (34, .int .i64 0)] [] ?_))
  refine AW.cutQ (α := Int) (fun x => ⟨[(5, .int .i64 x)], []⟩) (fun x => (0 ≤ x ∧ x ≤ 1000000000000000) ∧ (gSize_l1 g mask ((List.length (Graph.Edges g)) - 0 + 1) n1 0) = x) ?_ ?_
  ·
   skip
   refine AW.block (AW.loop (α := Int × Nat) (fun x => ⟨[(1, .int .i64 mask), (5, .int .i64 x.1), (32, .data (.slice (.named 0)) ((Graph.Edges g) : List Edge)), (33, .int .i64 ((List.length (Graph.Edges g) : Nat) : Int)), (34, .int .i64 ((x.2 : Nat) : Int))], []⟩) (fun x => (0 ≤ x.1 ∧ x.1 ≤ 1000000000000000) ∧ ∃ k, (List.length (Graph.Edges g)) - x.2 < k ∧ (gSize_l1 g mask ((List.length (Graph.Edges g)) - 0 + 1) n1 0) = gSize_l1 g mask k x.1 x.2) (fun x => (List.length (Graph.Edges g)) - x.2) (n1, 0) (by kernel_rfl) ⟨?_, _, Nat.lt_succ_self _, rfl⟩ ?_)
   ·
    show 0 ≤ n1 ∧ n1 ≤ 1000000000000000
    exact hJ0
   ·
    intro x hR
    obtain ⟨n, v34⟩ := x
    obtain ⟨hI1, k72, hk70, e71⟩ := hR
    replace hI1 : 0 ≤ n ∧ n ≤ 1000000000000000 := hI1
    replace hk70 : (List.length (Graph.Edges g)) - v34 < k72 := hk70
    obtain ⟨k72q, rfl⟩ : ∃ k, k72 = k + 1 := ⟨k72 - 1, by omega⟩
    have he := fun (h : v34 < g.Edges.length) => hV.edges _ (getD_mem g.Edges v34 Edge.zero h)
    have hn6 := hV.e6
    have hn5 := hV.n5
    refine AW.seq (AW.r1U hC [1, 5, 32, 33, 34, 35] [] [(35, .bool (decide (((v34 : Nat) : Int) < ((List.length (Graph.Edges g) : Nat) : Int))))] [] ?_)
    refine AW.seq (AW.cd (decide (((v34 : Nat) : Int) < ((List.length (Graph.Edges g) : Nat) : Int))) ?_ ?_)
    ·
     intro h73
     have h73q : ((v34 : Nat) : Int) < ((List.length (Graph.Edges g) : Nat) : Int) := (of_decide_eq_true h73)
     have e74 := e71.trans (Go.Am.bif_t h73)
     refine AW.kpU [1, 5, 32, 33, 34] [] [] [] ?_
     refine AW.skip (AW.seq (AW.block (AW.seq (AW.r0U hC [1, 5, 9, 32, 33, 34] [36] [(9, .ref 36 1 0)] [(36, .box 1 [.int .i64 (Edge.A (List.getD (Graph.Edges g) v34 Edge.zero)), .int .i64 (Edge.B (List.getD (Graph.Edges g) v34 Edge.zero)), .int .i64 (Edge.Den (List.getD (Graph.Edges g) v34 Edge.zero))])] [(0 ≤ ((v34 : Nat) : Int) ∧ ((v34 : Nat) : Int) < ((List.length (Graph.Edges g) : Nat) : Int))] ?_ ?_))))
     ·
      refine ⟨?_, trivial⟩
      ·
       omega
     refine AW.seq (AW.r0U hC [1, 5, 9, 32, 33, 34, 51] [36] [(51, .bool (bif ((bits .and .i64 mask ((1 : Int) * 2 ^ (Int.toNat (Edge.A (List.getD (Graph.Edges g) v34 Edge.zero))))) != 0) then ((bits .and .i64 mask ((1 : Int) * 2 ^ (Int.toNat (Edge.B (List.getD (Graph.Edges g) v34 Edge.zero))))) != 0) else false))] [] [(0 ≤ (Edge.A (List.getD (Graph.Edges g) v34 Edge.zero)) ∧ (Edge.A (List.getD (Graph.Edges g) v34 Edge.zero)) ≤ 64), (-9223372036854775808 ≤ ((1 : Int) * 2 ^ (Int.toNat (Edge.A (List.getD (Graph.Edges g) v34 Edge.zero)))) ∧ ((1 : Int) * 2 ^ (Int.toNat (Edge.A (List.getD (Graph.Edges g) v34 Edge.zero)))) ≤ 9223372036854775807), ((((bits .and .i64 mask ((1 : Int) * 2 ^ (Int.toNat (Edge.A (List.getD (Graph.Edges g) v34 Edge.zero))))) != 0) = true) → ((((bits .and .i64 mask ((1 : Int) * 2 ^ (Int.toNat (Edge.A (List.getD (Graph.Edges g) v34 Edge.zero))))) != 0) = true))), ((((bits .and .i64 mask ((1 : Int) * 2 ^ (Int.toNat (Edge.A (List.getD (Graph.Edges g) v34 Edge.zero))))) != 0) = true) → ((((bits .and .i64 mask ((1 : Int) * 2 ^ (Int.toNat (Edge.A (List.getD (Graph.Edges g) v34 Edge.zero))))) != 0) = true))), ((((bits .and .i64 mask ((1 : Int) * 2 ^ (Int.toNat (Edge.A (List.getD (Graph.Edges g) v34 Edge.zero))))) != 0) = true) → (0 ≤ (Edge.B (List.getD (Graph.Edges g) v34 Edge.zero)) ∧ (Edge.B (List.getD (Graph.Edges g) v34 Edge.zero)) ≤ 64)), ((((bits .and .i64 mask ((1 : Int) * 2 ^ (Int.toNat (Edge.A (List.getD (Graph.Edges g) v34 Edge.zero))))) != 0) = true) → (-9223372036854775808 ≤ ((1 : Int) * 2 ^ (Int.toNat (Edge.B (List.getD (Graph.Edges g) v34 Edge.zero)))) ∧ ((1 : Int) * 2 ^ (Int.toNat (Edge.B (List.getD (Graph.Edges g) v34 Edge.zero)))) ≤ 9223372036854775807)), ((((bits .and .i64 mask ((1 : Int) * 2 ^ (Int.toNat (Edge.A (List.getD (Graph.Edges g) v34 Edge.zero))))) != 0) = true) → ((((bits .and .i64 mask ((1 : Int) * 2 ^ (Int.toNat (Edge.A (List.getD (Graph.Edges g) v34 Edge.zero))))) != 0) = true))), ((((bits .and .i64 mask ((1 : Int) * 2 ^ (Int.toNat (Edge.A (List.getD (Graph.Edges g) v34 Edge.zero))))) != 0) = true) → ((((bits .and .i64 mask ((1 : Int) * 2 ^ (Int.toNat (Edge.A (List.getD (Graph.Edges g) v34 Edge.zero))))) != 0) = true))), ((((bits .and .i64 mask ((1 : Int) * 2 ^ (Int.toNat (Edge.A (List.getD (Graph.Edges g) v34 Edge.zero))))) != 0) = true) → ((((bits .and .i64 mask ((1 : Int) * 2 ^ (Int.toNat (Edge.A (List.getD (Graph.Edges g) v34 Edge.zero))))) != 0) = true))), ((((bits .and .i64 mask ((1 : Int) * 2 ^ (Int.toNat (Edge.A (List.getD (Graph.Edges g) v34 Edge.zero))))) != 0) = true) → ((((bits .and .i64 mask ((1 : Int) * 2 ^ (Int.toNat (Edge.A (List.getD (Graph.Edges g) v34 Edge.zero))))) != 0) = true)))] ?_ ?_)
     ·
      refine ⟨?_, ?_, ?_, ?_, ?_, ?_, ?_, ?_, ?_, ?_, trivial⟩
      ·
       omega
      ·
       have h := he (by omega)
       have ha := pow2 (n := Int.toNat (Edge.A (List.getD g.Edges v34 Edge.zero))) (by omega)
       have hb := pow2 (n := Int.toNat (Edge.B (List.getD g.Edges v34 Edge.zero))) (by omega)
       omega
      ·
       intro g75
       have g75p0 : (bits .and .i64 mask ((1 : Int) * 2 ^ (Int.toNat (Edge.A (List.getD (Graph.Edges g) v34 Edge.zero))))) ≠ 0 := (Go.Am.bne_pos g75)
       assumption
      ·
       intro g76
       have g76p0 : (bits .and .i64 mask ((1 : Int) * 2 ^ (Int.toNat (Edge.A (List.getD (Graph.Edges g) v34 Edge.zero))))) ≠ 0 := (Go.Am.bne_pos g76)
       assumption
      ·
       intro g77
       have g77p0 : (bits .and .i64 mask ((1 : Int) * 2 ^ (Int.toNat (Edge.A (List.getD (Graph.Edges g) v34 Edge.zero))))) ≠ 0 := (Go.Am.bne_pos g77)
       omega
      ·
       intro g78
       have g78p0 : (bits .and .i64 mask ((1 : Int) * 2 ^ (Int.toNat (Edge.A (List.getD (Graph.Edges g) v34 Edge.zero))))) ≠ 0 := (Go.Am.bne_pos g78)
       have h := he (by omega)
       have ha := pow2 (n := Int.toNat (Edge.A (List.getD g.Edges v34 Edge.zero))) (by omega)
       have hb := pow2 (n := Int.toNat (Edge.B (List.getD g.Edges v34 Edge.zero))) (by omega)
       omega
      ·
       intro g79
       have g79p0 : (bits .and .i64 mask ((1 : Int) * 2 ^ (Int.toNat (Edge.A (List.getD (Graph.Edges g) v34 Edge.zero))))) ≠ 0 := (Go.Am.bne_pos g79)
       assumption
      ·
       intro g80
       have g80p0 : (bits .and .i64 mask ((1 : Int) * 2 ^ (Int.toNat (Edge.A (List.getD (Graph.Edges g) v34 Edge.zero))))) ≠ 0 := (Go.Am.bne_pos g80)
       assumption
      ·
       intro g81
       have g81p0 : (bits .and .i64 mask ((1 : Int) * 2 ^ (Int.toNat (Edge.A (List.getD (Graph.Edges g) v34 Edge.zero))))) ≠ 0 := (Go.Am.bne_pos g81)
       assumption
      ·
       intro g82
       have g82p0 : (bits .and .i64 mask ((1 : Int) * 2 ^ (Int.toNat (Edge.A (List.getD (Graph.Edges g) v34 Edge.zero))))) ≠ 0 := (Go.Am.bne_pos g82)
       assumption
     refine AW.cd (bif ((bits .and .i64 mask ((1 : Int) * 2 ^ (Int.toNat (Edge.A (List.getD (Graph.Edges g) v34 Edge.zero))))) != 0) then ((bits .and .i64 mask ((1 : Int) * 2 ^ (Int.toNat (Edge.B (List.getD (Graph.Edges g) v34 Edge.zero))))) != 0) else false) ?_ ?_
     ·
      intro h83
      have h83q : ((bits .and .i64 mask ((1 : Int) * 2 ^ (Int.toNat (Edge.A (List.getD (Graph.Edges g) v34 Edge.zero))))) ≠ 0) ∧ ((bits .and .i64 mask ((1 : Int) * 2 ^ (Int.toNat (Edge.B (List.getD (Graph.Edges g) v34 Edge.zero))))) ≠ 0) := (And.imp (fun h => (Go.Am.bne_pos h)) (fun h => (Go.Am.bne_pos h)) (Go.Am.and_pos h83))
      have e84 := e74.trans (Go.Am.bif_t h83)
      refine AW.r0U hC [1, 5, 32, 33, 34] [] [(5, .int .i64 (n / (Edge.Den (List.getD (Graph.Edges g) v34 Edge.zero))))] [] [(0 ≤ n ∧ 0 < (Edge.Den (List.getD (Graph.Edges g) v34 Edge.zero)))] ?_ ?_
      ·
       refine ⟨?_, trivial⟩
       ·
        omega
      refine AW.r0U hC [1, 5, 32, 33, 34] [] [(34, .int .i64 ((v34 + 1 : Nat) : Int))] [] [(-9223372036854775808 ≤ ((v34 + 1 : Nat) : Int) ∧ ((v34 + 1 : Nat) : Int) ≤ 9223372036854775807)] ?_ ?_
      ·
       refine ⟨?_, trivial⟩
       ·
        omega
      refine AW.back (x := (n, v34)) ((n / (Edge.Den (List.getD (Graph.Edges g) v34 Edge.zero))), v34 + 1) (by kernel_rfl) ⟨?_, k72q, ?_, e84⟩ ?_
      ·
       show 0 ≤ (n / (Edge.Den (List.getD (Graph.Edges g) v34 Edge.zero))) ∧ (n / (Edge.Den (List.getD (Graph.Edges g) v34 Edge.zero))) ≤ 1000000000000000
       have := divs hI1.1 (he (by omega)).2.2.2.1
       omega
      ·
       show (List.length (Graph.Edges g)) - (v34 + 1) < k72q
       omega
      ·
       show (List.length (Graph.Edges g)) - (v34 + 1) < (List.length (Graph.Edges g)) - v34
       omega
     ·
      intro h85
      have h85q : ((bits .and .i64 mask ((1 : Int) * 2 ^ (Int.toNat (Edge.A (List.getD (Graph.Edges g) v34 Edge.zero))))) = 0) ∨ ((bits .and .i64 mask ((1 : Int) * 2 ^ (Int.toNat (Edge.B (List.getD (Graph.Edges g) v34 Edge.zero))))) = 0) := (Or.imp (fun h => (Go.Am.bne_neg h)) (fun h => (Go.Am.bne_neg h)) (Go.Am.and_neg h85))
      have e86 := e74.trans (Go.Am.bif_f h85)
      refine AW.kpU [1, 5, 32, 33, 34] [] [] [] ?_
      refine AW.skip (AW.r0U hC [1, 5, 32, 33, 34] [] [(34, .int .i64 ((v34 + 1 : Nat) : Int))] [] [(-9223372036854775808 ≤ ((v34 + 1 : Nat) : Int) ∧ ((v34 + 1 : Nat) : Int) ≤ 9223372036854775807)] ?_ ?_)
      ·
       refine ⟨?_, trivial⟩
       ·
        omega
      refine AW.back (x := (n, v34)) (n, v34 + 1) (by kernel_rfl) ⟨?_, k72q, ?_, e86⟩ ?_
      ·
       show 0 ≤ n ∧ n ≤ 1000000000000000
       exact hI1
      ·
       show (List.length (Graph.Edges g)) - (v34 + 1) < k72q
       omega
      ·
       show (List.length (Graph.Edges g)) - (v34 + 1) < (List.length (Graph.Edges g)) - v34
       omega
    ·
     intro h87
     have h87q : ¬ (((v34 : Nat) : Int) < ((List.length (Graph.Edges g) : Nat) : Int)) := (of_decide_eq_false h87)
     have e88 := e71.trans (Go.Am.bif_f h87)
     refine AW.kpU [5] [] [] [] ?_
     refine AW.exit ?_
     refine AW.meet n (by kernel_rfl) ⟨?_, e88⟩
     show 0 ≤ n ∧ n ≤ 1000000000000000
     exact hI1
  ·
   intro n hR
   obtain ⟨hJ1, e89⟩ := hR
   replace hJ1 : 0 ≤ n ∧ n ≤ 1000000000000000 := hJ1
   have e90 := e45.trans (Go.Am.then_eq e89)
   refine AW.seq (AW.r1 hC [4] [] ⟨[(4, .int .i64 (if 1 > n then 1 else n))], []⟩ ?_)
   exact AW.ret (AW.retE (β := Int) (fun v => [⟨(.int .i64), v⟩]) (fun v => []) (v := (if 1 > n then 1 else n)) e90 (by kernel_rfl) rfl rfl)

end
end Go.Proofs.Ytgbapklfgjnggaa
